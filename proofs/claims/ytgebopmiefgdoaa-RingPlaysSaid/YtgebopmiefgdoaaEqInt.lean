/-
  The contract of slices.Equal at []int: are two slices the same list?
-/
import Derived.Test.YtgebopmiefgdoaaBase
import Derived.WalkKit
import Derived.WalkSpells
import Derived.KernelRfl
import Derived.Deep.Draws
import Derived.Deep.QuietTactic
import Derived.BigQuiet
import Derived.RowKit3
import Derived.Lib.Hide
namespace Go.Proofs.Ytgebopmiefgdoaa
open Go.RowKit
theorem take_nextInt (xs ys : List Int) (k : Nat) (x y : Int) (hx : xs[k]? = some x) (hy : ys[k]? = some y) (h : xs.take k = ys.take k) (he : x = y) : xs.take (k + 1) = ys.take (k + 1) := by
  obtain ⟨h1, rfl⟩ := List.getElem?_eq_some_iff.1 hx
  obtain ⟨h2, rfl⟩ := List.getElem?_eq_some_iff.1 hy
  rw [List.take_succ_eq_append_getElem h1, List.take_succ_eq_append_getElem h2, h, he]
theorem intsV_getInt (w : List Int) (k : Nat) (u : Value) (h : (w.map (Value.int .i64))[k]? = some u) : ∃ x, w[k]? = some x ∧ u = .int .i64 x := by
  rw [List.getElem?_map] at h
  obtain ⟨c, h1, h2⟩ := Option.map_eq_some_iff.1 h
  exact ⟨c, h1, h2.symm⟩
set_option maxRecDepth 100000 in
set_option maxHeartbeats 2000000 in
theorem EqInt_any (xs ys : List Int) (A A2 : Option Addr) (n c n2 c2 B B2 : Nat) (w : World) (hr : Reads w B 1 A n (xs.map (Value.int .i64))) (hr2 : Reads w B2 1 A2 n2 (ys.map (Value.int .i64))) (hn : n ≤ 4611686018427387904) (hn2 : n2 ≤ 4611686018427387904) :
    Calls Try.prog 69 #[.slice A n c, .slice A2 n2 c2] w fun e w' => e = .returned (.bool (decide (xs = ys))) ∧ Below w.heap.size w w' := by
  have hxl : xs.length = n := by simpa using hr.1
  have hyl : ys.length = n2 := by simpa using hr2.1
  by_cases hne : n = n2
  · subst hne
    have HX := Lib.hid hxl
    have HY := Lib.hid hyl
    clear hxl hyl
    go_enter Try.func69, Try.ntmps69
    go_wp2
    go_loopw [13] (fun i wr => ∃ k : Nat, k ≤ n ∧ i = .int .i64 k ∧ xs.take k = ys.take k ∧ Below w.heap.size w wr ∧ Reads wr B 1 A n (xs.map (Value.int .i64)) ∧ Reads wr B2 1 A2 n (ys.map (Value.int .i64))) (fun i _ => n - (intOf i).toNat)
    case atStart => exact ⟨0, by omega, rfl, rfl, Below.refl _ _, hr, hr2⟩
    case round =>
      obtain ⟨k, hk, rfl, htk, hbl, hr', hr2'⟩ := hrel
      have HT := Lib.hid htk
      clear htk hr hr2
      by_cases hlt : k < n
      · obtain ⟨ad, u, rfl, hab, hu, hcell⟩ := hr'.at_ hlt
        obtain ⟨ad2, u2, rfl, hab2, hu2, hcell2⟩ := hr2'.at_ hlt
        obtain ⟨x, hx, rfl⟩ := intsV_getInt xs k u hu
        obtain ⟨y, hy, rfl⟩ := intsV_getInt ys k u2 hu2
        have HX2 := Lib.hid hx
        have HY2 := Lib.hid hy
        clear hu hu2 hx hy
        by_cases hxy : x = y
        · have HE := Lib.hid hxy
          have hb : (x != y) = false := by rw [bne_eq_false_iff_eq]; exact hxy
          clear hxy
          go_wp2
          go_quiet (fail)
          go_wp2
          go_roundw
          case rel => exact ⟨k + 1, by omega, by go_num, take_nextInt xs ys k x y HX2.out HY2.out HT.out HE.out, below_drewN hbl _, hr', hr2'⟩
          case measure => simp [intOf]; omega
        · have hb : (x != y) = true := by rw [bne_iff_ne]; exact hxy
          have hne : decide (xs = ys) = false := decide_eq_false fun e => hxy (by have := HX2.out; rw [e, HY2.out] at this; exact (Option.some.inj this).symm)
          have HN := Lib.hid hne
          clear hxy hne
          go_wp2
          go_quiet (fail)
          go_wp2
          go_ret
          rw [HN.out]
          exact ⟨rfl, below_drewN hbl _⟩
      · obtain rfl : k = n := by omega
        have he : decide (xs = ys) = true := by
          have := HT.out
          rw [List.take_of_length_le (by rw [HX.out]; exact Nat.le_refl _), List.take_of_length_le (by rw [HY.out]; exact Nat.le_refl _)] at this
          exact decide_eq_true this
        have HN := Lib.hid he
        clear he
        go_wp2
        go_ret
        rw [HN.out]
        exact ⟨rfl, hbl⟩
  · have hb : ((n : Int) != (n2 : Int)) = true := by rw [bne_iff_ne]; omega
    have hd : decide (xs = ys) = false := decide_eq_false fun e => hne (by rw [← hxl, ← hyl, e])
    have HD := Lib.hid hd
    clear hne hd hxl hyl
    go_enter Try.func69, Try.ntmps69
    go_wp2
    go_ret
    rw [HD.out]
    exact ⟨rfl, Below.refl _ _⟩
end Go.Proofs.Ytgebopmiefgdoaa

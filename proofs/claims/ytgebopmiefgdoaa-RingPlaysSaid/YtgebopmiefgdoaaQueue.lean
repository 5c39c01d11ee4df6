/-
  Contracts of queue.Queue[int].
-/
import Derived.Test.YtgebopmiefgdoaaBase
import Derived.Test.YtgebopmiefgdoaaOwn
import Derived.WalkKit
import Derived.WalkSpells
import Derived.KernelRfl
import Derived.Deep.Draws
import Derived.Deep.QuietTactic
import Derived.BigQuiet
import Derived.RowKit3
import Derived.Lib.Hide
import Derived.Deep.RegionHeld3
namespace Go.Proofs.Ytgebopmiefgdoaa
open Go.RowKit
/-- A queue's cells hold the things l, from place a on. -/
structure QOf (cs : Array Value) (l : List Int) (a : Nat) : Prop where
  size : cs.size = 26
  ha : a < 24
  hl : l.length ≤ 24
  at_ : cs[24]? = some (.int .i64 a)
  n_ : cs[25]? = some (.int .i64 l.length)
  get : ∀ i x, l[i]? = some x → cs[(a + i) % 24]? = some (.int .i64 x)
theorem QOf.cell {cs : Array Value} {l : List Int} {a : Nat} (h : QOf cs l a) (k : Nat) (hk : k < 26) : ∃ u, cs[k]? = some u := ⟨cs[k]'(by rw [h.size]; exact hk), by rw [Array.getElem?_eq_getElem]⟩
theorem QOf.push {cs : Array Value} {l : List Int} {a : Nat} (h : QOf cs l a) (x : Int) (hl : l.length < 24) :
    QOf ((cs.setIfInBounds ((a + l.length) % 24) (.int .i64 x)).setIfInBounds 25 (.int .i64 ((l ++ [x]).length : Nat))) (l ++ [x]) a := by
  have hs := h.size
  have ha := h.ha
  refine ⟨by simp [hs], ha, by simp; omega, ?_, ?_, ?_⟩
  · rw [Array.getElem?_setIfInBounds_ne (by omega), Array.getElem?_setIfInBounds_ne (by omega)]; exact h.at_
  · rw [Array.getElem?_setIfInBounds_self]; simp [hs]
  · intro i y hy
    have hi : i < (l ++ [x]).length := (List.getElem?_eq_some_iff.1 hy).1
    simp at hi
    rw [Array.getElem?_setIfInBounds_ne (by omega)]
    rcases Nat.lt_or_ge i l.length with h1 | h1
    · rw [Array.getElem?_setIfInBounds_ne (by omega)]
      exact h.get i y (by rw [List.getElem?_append_left h1] at hy; exact hy)
    · obtain rfl : i = l.length := by omega
      rw [Array.getElem?_setIfInBounds_self]
      simp at hy
      subst hy
      simp [hs]; omega
theorem Reads.grown_ {w w' : World} {B n : Nat} {A : Option Addr} {xs : List Value} {g : Nat} (h : Reads w B 1 A n xs) (hg : w.grownBy w' (some g)) (hne : 0 < n → ∀ ad, A = some ad → ad.block ≠ g) (hB : B ≤ w.heap.size) : Reads w' B 1 A n xs :=
  ⟨h.1, fun hn => by
    obtain ⟨ad, e, hb, hc⟩ := h.2 hn
    refine ⟨ad, e, hb, fun j u hu => ?_⟩
    have hk := hc j u hu
    rw [← hk]
    exact World.cell?_of_block (hg.block _ (by rw [block_of_add]; omega) (by rw [block_of_add]; intro e2; injection e2 with e2; exact hne hn ad e e2))⟩
theorem grown_set (w : World) {g : Nat} {w' : World} (h : w.grownBy w' (some g)) (o : Nat) (u : Value) : w.grownBy (w'.setCell ⟨g, o, none⟩ u) (some g) :=
  ⟨h.os, h.tape, h.output, by simpa using h.size, fun k hk hne => (Below.heap_setCell w' ⟨g, o, none⟩ u k (fun e => hne (by rw [e]))).trans (h.block k hk hne)⟩
theorem grown_drewN (w : World) {r : Option Nat} {w' : World} (h : w.grownBy w' r) (n : Nat) : w.grownBy (w'.drewN n) r := ⟨h.os, h.tape, h.output, h.size, h.block⟩
theorem grown_alloc (w : World) {r : Option Nat} {w' : World} (h : w.grownBy w' r) (o : Obj) : w.grownBy (w'.alloc o) r :=
  ⟨h.os, h.tape, h.output, Nat.le_trans h.size (by simp), fun k hk hne => (Below.heap_alloc w' o k (Nat.lt_of_lt_of_le hk h.size)).trans (h.block k hk hne)⟩
theorem grown_below {w w1 w2 : World} {r : Option Nat} (h : w.grownBy w1 r) (k : Below w1.heap.size w1 w2) : w.grownBy w2 r :=
  ⟨k.os.trans h.os, k.tape.trans h.tape, k.output.trans h.output, Nat.le_trans h.size k.size, fun i hi hne => (k.block i (Nat.lt_of_lt_of_le hi h.size)).trans (h.block i hi hne)⟩
theorem ints_at {w : World} {B n k : Nat} {A : Option Addr} {xs : List Int} (h : Reads w B 1 A n (xs.map (Value.int .i64))) (hk : k < n) : ∃ ad x, A = some ad ∧ ad.block < B ∧ xs[k]? = some x ∧ w.cell? (ad.add k) = some (.int .i64 x) := by
  obtain ⟨ad, u, e, hb, hu, hc⟩ := h.at_ hk
  rw [List.getElem?_map] at hu
  obtain ⟨x, h1, rfl⟩ := Option.map_eq_some_iff.1 hu
  exact ⟨ad, x, e, hb, h1, hc⟩
theorem take_snoc {α : Type} (l xs : List α) (k : Nat) (x : α) (h : xs[k]? = some x) : l ++ xs.take (k + 1) = (l ++ xs.take k) ++ [x] := by
  obtain ⟨hk, rfl⟩ := List.getElem?_eq_some_iff.1 h
  rw [List.take_succ_eq_append_getElem hk, List.append_assoc]
theorem i64_in (n : Int) (h0 : -9223372036854775808 ≤ n) (h1 : n < 9223372036854775808) : IntKind.i64.wrap n = n := by
  simp [IntKind.wrap, IntKind.bits, IntKind.signed]; omega
theorem set_far (w : World) (g j k : Nat) (u : Value) (h : k ≠ j) : (w.setCell ⟨g, j, none⟩ u).cell? ⟨g, k, none⟩ = w.cell? ⟨g, k, none⟩ := by
  apply World.cell?_setCell_other
  intro e
  injection e with _ e _
  exact h e.symm
theorem QOf.push_ {cs : Array Value} {l : List Int} {a m : Nat} (h : QOf cs l a) (x : Int) (hm : l.length = m) (hl : m < 24) :
    QOf ((cs.setIfInBounds ((a + m) % 24) (.int .i64 x)).setIfInBounds 25 (.int .i64 ((m : Int) + 1))) (l ++ [x]) a := by
  subst hm
  have h' := h.push x hl
  rw [List.length_append] at h'
  exact h'
theorem grown_drew (w : World) {r : Option Nat} {w' : World} (h : w.grownBy w' r) : w.grownBy w'.drew r := ⟨h.os, h.tape, h.output, h.size, h.block⟩
set_option maxRecDepth 100000 in
set_option maxHeartbeats 2000000 in
theorem Push_any (g : Nat) (cs : Array Value) (l xs : List Int) (a : Nat) (A : Option Addr) (n c B : Nat) (w : World) (hb : Blk w g 152 cs) (hq : QOf cs l a)
    (hr : Reads w B 1 A n (xs.map (Value.int .i64))) (hB : B ≤ w.heap.size) (hne : 0 < n → ∀ ad, A = some ad → ad.block ≠ g) (hn : n ≤ 4611686018427387904) :
    Calls Try.prog 66 #[.pointer (some ⟨g, 0, none⟩), .slice A n c] w fun e w' => e = .returned (.bool (decide (l.length + xs.length ≤ 24))) ∧ w.grownBy w' (some g) ∧
      ∃ cs', Blk w' g 152 cs' ∧ QOf cs' (if l.length + xs.length ≤ 24 then l ++ xs else l) a := by
  have hxl : xs.length = n := by simpa using hr.1
  have c24 := (hb.cell 24).trans hq.at_
  have c25 := (hb.cell 25).trans hq.n_
  have hl := hq.hl
  by_cases hfit : l.length + xs.length ≤ 24
  · rw [decide_eq_true hfit, if_pos hfit]
    have hln : l.length + n ≤ 24 := by omega
    have HX := Lib.hid hxl
    clear hxl hfit
    go_enter Try.func66, Try.ntmps66
    go_wp2
    go_loopw [17] (fun i wr => ∃ k : Nat, k ≤ n ∧ i = .int .i64 k ∧ w.grownBy wr (some g) ∧ ∃ cs', Blk wr g 152 cs' ∧ QOf cs' (l ++ xs.take k) a) (fun i _ => n - (intOf i).toNat)
    case atStart => exact ⟨0, by omega, rfl, World.grownBy.refl w _, cs, hb, by simpa using hq⟩
    case round =>
      obtain ⟨k, hk, rfl, hg, cs', hb', hq'⟩ := hrel
      by_cases hlt : k < n
      · have hr' := hr.grown_ hg hne hB
        obtain ⟨ad, x, rfl, hab, hx, hcell⟩ := ints_at hr' hlt
        have hlk : (l ++ xs.take k).length = l.length + k := by simp [HX.out]; omega
        have d24 := (hb'.cell 24).trans hq'.at_
        have d25 := (hb'.cell 25).trans hq'.n_
        have ha := hq'.ha
        obtain ⟨u, hu⟩ := hq'.cell ((a + (l ++ xs.take k).length) % 24) (by omega)
        have du := (hb'.cell _).trans hu
        have hz := hb'.frozen
        have HQ := Lib.hid (hq'.push_ x rfl (by omega))
        have HT := Lib.hid (take_snoc l xs k x hx)
        generalize hm : (l ++ xs.take k).length = m at *
        have hm' : m < 24 := by omega
        have hi1 : (24 : Nat) ≠ (a + m) % 24 := by omega
        have hi2 : (25 : Nat) ≠ (a + m) % 24 := by omega
        have hw : IntKind.i64.wrap ((a : Int) + m) = (a : Int) + m := i64_in _ (by omega) (by omega)
        have ht : Int.tmod ((a : Int) + m) 24 = (((a + m) % 24 : Nat) : Int) := by rw [Int.tmod_eq_emod_of_nonneg (by omega)]; omega
        have hwt : IntKind.i64.wrap (((a + m) % 24 : Nat) : Int) = (((a + m) % 24 : Nat) : Int) := i64_in _ (by omega) (by omega)
        have hj : (a + m) % 24 < 24 := Nat.mod_lt _ (by omega)
        generalize (a + m) % 24 = j at *
        have hj0 : (0 : Int) ≤ (j : Int) := by omega
        have hj1 : (j : Int) < 24 := by omega
        clear hu hq' hr' hr hq c24 c25 hb hx hm hlk
        go_wp2
        go_region_held3 (fun w' => w'.cell? ⟨g, 24, none⟩ = some (.int .i64 a) ∧ w'.cell? ⟨g, 25, none⟩ = some (.int .i64 m)) (first | (go_keep; done) | exact ⟨(set_far _ _ _ _ _ hi1).trans d24, (set_far _ _ _ _ _ hi2).trans d25⟩) (fail)
        go_wp2
        go_roundw
        case rel =>
          refine ⟨k + 1, by omega, by go_num, grown_drew w (grown_set w (grown_set w hg _ _) _ _), _, ((hb'.set_ _ _).set_ _ _).drew, ?_⟩
          rw [HT.out]
          exact HQ.out
        case measure => simp [intOf]; omega
      · obtain rfl : k = n := by omega
        rw [List.take_of_length_le (by rw [HX.out]; exact Nat.le_refl _)] at hq'
        go_wp2
        go_ret
        exact ⟨rfl, hg, cs', hb', hq'⟩
  · rw [decide_eq_false hfit, if_neg hfit]
    have hln : ¬ l.length + n ≤ 24 := by omega
    clear hfit
    go_enter Try.func66, Try.ntmps66
    go_wp2
    go_ret
    exact ⟨rfl, World.grownBy.refl w _, cs, hb, hq⟩
theorem QOf.zero (cs : Array Value) (hs : cs.size = 26) (h24 : cs[24]? = some (.int .i64 0)) (h25 : cs[25]? = some (.int .i64 0)) : QOf cs [] 0 := ⟨hs, by omega, by simp, h24, h25, by simp⟩
theorem QOf.clear : QOf (Array.replicate 26 (Value.int .i64 0)) [] 0 := by
  refine ⟨by simp, by omega, by simp, by simp, by simp, by simp⟩
theorem QOf.pop {cs : Array Value} {l : List Int} {a : Nat} {x : Int} (h : QOf cs (x :: l) a) :
    QOf (((cs.setIfInBounds a (.int .i64 0)).setIfInBounds 24 (.int .i64 ((a + 1) % 24 : Nat))).setIfInBounds 25 (.int .i64 ((l.length : Nat)))) l ((a + 1) % 24) := by
  have hs := h.size
  have ha := h.ha
  have hl := h.hl
  simp at hl
  refine ⟨by simp [hs], Nat.mod_lt _ (by omega), by omega, ?_, ?_, ?_⟩
  · rw [Array.getElem?_setIfInBounds_ne (by omega), Array.getElem?_setIfInBounds_self]; simp [hs]
  · rw [Array.getElem?_setIfInBounds_self]; simp [hs]
  · intro i y hy
    have hi : i < l.length := (List.getElem?_eq_some_iff.1 hy).1
    rw [Array.getElem?_setIfInBounds_ne (by omega), Array.getElem?_setIfInBounds_ne (by omega), Array.getElem?_setIfInBounds_ne (by omega)]
    have := h.get (i + 1) y (by simpa using hy)
    rw [← this]
    congr 1
    omega
theorem QOf.front {cs : Array Value} {l : List Int} {a : Nat} (h : QOf cs l a) (x : Int) (hl : l.length < 24) :
    QOf (((cs.setIfInBounds 24 (.int .i64 ((a + 23) % 24 : Nat))).setIfInBounds ((a + 23) % 24) (.int .i64 x)).setIfInBounds 25 (.int .i64 ((l.length : Int) + 1))) (x :: l) ((a + 23) % 24) := by
  have hs := h.size
  have ha := h.ha
  refine ⟨by simp [hs], Nat.mod_lt _ (by omega), by simp; omega, ?_, ?_, ?_⟩
  · rw [Array.getElem?_setIfInBounds_ne (by omega), Array.getElem?_setIfInBounds_ne (by omega), Array.getElem?_setIfInBounds_self]; simp [hs]
  · rw [Array.getElem?_setIfInBounds_self]; simp [hs]
  · intro i y hy
    have hi : i < (x :: l).length := (List.getElem?_eq_some_iff.1 hy).1
    simp at hi
    rw [Array.getElem?_setIfInBounds_ne (by omega)]
    rcases i with _ | i
    · simp at hy
      subst hy
      rw [show ((a + 23) % 24 + 0) % 24 = (a + 23) % 24 from by omega, Array.getElem?_setIfInBounds_self]
      simp [hs]; omega
    · rw [Array.getElem?_setIfInBounds_ne (by omega), Array.getElem?_setIfInBounds_ne (by omega)]
      have := h.get i y (by simpa using hy)
      rw [← this]
      congr 1
      omega
theorem QLen_any (g : Nat) (cs : Array Value) (l : List Int) (a : Nat) (w : World) (hb : Blk w g 152 cs) (hq : QOf cs l a) :
    Calls Try.prog 68 #[.pointer (some ⟨g, 0, none⟩)] w fun e w' => e = .returned (.int .i64 (l.length : Int)) ∧ Below w.heap.size w w' := by
  have c25 := (hb.cell 25).trans hq.n_
  go_enter Try.func68, Try.ntmps68
  go_wp2
  go_ret
  exact ⟨rfl, Below.refl _ _⟩
def headI (l : List Int) : Int := l.headD 0
theorem Peek_any (g : Nat) (cs : Array Value) (l : List Int) (a : Nat) (w : World) (hb : Blk w g 152 cs) (hq : QOf cs l a) :
    Calls Try.prog 67 #[.pointer (some ⟨g, 0, none⟩)] w fun e w' => e = .returned (.tuple #[.int .i64 (headI l), .bool (!l.isEmpty)]) ∧ Below w.heap.size w w' := by
  have c24 := (hb.cell 24).trans hq.at_
  have c25 := (hb.cell 25).trans hq.n_
  rcases l with _ | ⟨x, l⟩
  · simp at c25
    go_enter Try.func67, Try.ntmps67
    go_wp2
    go_ret2
    exact ⟨rfl, Below.refl _ _⟩
  · have h0 := (hb.cell _).trans (hq.get 0 x (by simp))
    have ha := hq.ha
    rw [show (a + 0) % 24 = a from by omega] at h0
    have b1 : (((x :: l).length : Nat) : Int) ≠ 0 := by simp; omega
    have b2 : ((((x :: l).length : Nat) : Int) == 0) = false := beq_eq_false_iff_ne.2 b1
    have ha1 : (0 : Int) ≤ (a : Int) := by omega
    have ha2 : (a : Int) < 24 := by omega
    generalize (((x :: l).length : Nat) : Int) = L at *
    go_enter Try.func67, Try.ntmps67
    go_wp2
    go_quiet (fail)
    go_wp2
    go_ret2
    exact ⟨rfl, below_drewN (Below.refl _ _) _⟩
set_option maxRecDepth 100000 in
set_option maxHeartbeats 2000000 in
theorem QClear_any (g : Nat) (cs : Array Value) (l : List Int) (a : Nat) (w : World) (hb : Blk w g 152 cs) (hq : QOf cs l a) :
    Calls Try.prog 65 #[.pointer (some ⟨g, 0, none⟩)] w fun e w' => e = .returned (.tuple #[]) ∧ w.grownBy w' (some g) ∧
      ∃ cs', Blk w' g 152 cs' ∧ QOf cs' [] 0 := by
  have hs := hq.size
  go_enter Try.func65, Try.ntmps65
  go_wp2_with (refine wpList_store_row rfl 152 (.tmp 4) (.tmp 3) rfl g #[.int .i64 0, .int .i64 0, .int .i64 0, .int .i64 0, .int .i64 0, .int .i64 0, .int .i64 0, .int .i64 0, .int .i64 0, .int .i64 0, .int .i64 0, .int .i64 0, .int .i64 0, .int .i64 0, .int .i64 0, .int .i64 0, .int .i64 0, .int .i64 0, .int .i64 0, .int .i64 0, .int .i64 0, .int .i64 0, .int .i64 0, .int .i64 0, .int .i64 0, .int .i64 0] rfl rfl 152 cs hb (by kernel_rfl) hs (by kernel_rfl) ?_)
  go_end0
  refine ⟨rfl, ⟨rfl, rfl, rfl, by simp [World.setRow], fun k hk hne => setRow_other w g k _ (fun e => hne (by rw [e]))⟩, _, setRow_heap w g _ _ _ _ hb, ⟨by rfl, by omega, by simp, by rfl, by rfl, by simp⟩⟩
end Go.Proofs.Ytgebopmiefgdoaa

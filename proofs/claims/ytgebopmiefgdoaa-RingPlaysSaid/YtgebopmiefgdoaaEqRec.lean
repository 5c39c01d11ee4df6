/-
  The contract of slices.Equal at []api.Rec: are two slices the same records?
-/
import Derived.Test.YtgebopmiefgdoaaRecElem
import Derived.Test.YtgebopmiefgdoaaRecGet
import Derived.Deep.RegionHeld3
namespace Go.Proofs.Ytgebopmiefgdoaa
open Go.RowKit
theorem take_nextRec (xs ys : List Rec) (k : Nat) (x y : Rec) (hx : xs[k]? = some x) (hy : ys[k]? = some y) (h : xs.take k = ys.take k) (he : x = y) : xs.take (k + 1) = ys.take (k + 1) := by
  obtain ⟨h1, rfl⟩ := List.getElem?_eq_some_iff.1 hx
  obtain ⟨h2, rfl⟩ := List.getElem?_eq_some_iff.1 hy
  rw [List.take_succ_eq_append_getElem h1, List.take_succ_eq_append_getElem h2, h, he]
def take_nextRec_ok (xs ys : List Rec) (k : Nat) : Prop := xs.take k = ys.take k → xs.take (k + 1) = ys.take (k + 1)
instance : DecidableEq Rec := fun a b => by
  cases a; cases b
  simp only [Rec.mk.injEq]
  infer_instance
theorem neq_rec (x y : Rec) (W : World) : (binOp .neq 64 (.agg #[.int .u16 x.addr, .int .u8 x.data, .bool x.read, .bool x.ba, .bool x.bs, .bool x.lic, .bool x.avma, .bool x.busy, .bool x.mine]) (.agg #[.int .u16 y.addr, .int .u8 y.data, .bool y.read, .bool y.ba, .bool y.bs, .bool y.lic, .bool y.avma, .bool y.busy, .bool y.mine])).run Try.prog W = .ok (.bool (!decide (x = y))) W := by
  have hu := Try.underlying64
  have hu16 := Try.underlying22
  have hu8 := Try.underlying5
  have hb := Try.underlying4
  have hst : Try.prog.stoodInHeld 64 = false := by kernel_rfl
  rw [run_neq_struct, run_equalIn_agg W 9999 _ _ _ (by rw [Program.fieldsOf, hu]) hst]
  rw [Program.fieldsOf, hu]
  simp [Op.eqFields, go_sem]
  cases x
  cases y
  simp only [Rec.mk.injEq]
  repeat' split
  all_goals simp_all
theorem rec_cells {w : World} {P : Addr} {y : Rec} (hc : ∀ j v, y.cells[j]? = some v → w.cell? (P.add j) = some v) :
    w.cell? P = some (.int .u16 y.addr) ∧ w.cell? ⟨P.block, P.off + 1, none⟩ = some (.int .u8 y.data) ∧ w.cell? ⟨P.block, P.off + 2, none⟩ = some (.bool y.read) ∧ w.cell? ⟨P.block, P.off + 3, none⟩ = some (.bool y.ba) ∧ w.cell? ⟨P.block, P.off + 4, none⟩ = some (.bool y.bs) ∧ w.cell? ⟨P.block, P.off + 5, none⟩ = some (.bool y.lic) ∧ w.cell? ⟨P.block, P.off + 6, none⟩ = some (.bool y.avma) ∧ w.cell? ⟨P.block, P.off + 7, none⟩ = some (.bool y.busy) ∧ w.cell? ⟨P.block, P.off + 8, none⟩ = some (.bool y.mine) := by
  have h : ∀ j v, y.cells[j + 1]? = some v → w.cell? ⟨P.block, P.off + (j + 1), none⟩ = some v := fun j v hv => by
    have := hc (j + 1) v hv
    rwa [add_pos _ _ (by omega)] at this
  exact ⟨hc 0 _ rfl, h 0 _ rfl, h 1 _ rfl, h 2 _ rfl, h 3 _ rfl, h 4 _ rfl, h 5 _ rfl, h 6 _ rfl, h 7 _ rfl⟩
set_option maxRecDepth 100000 in
set_option maxHeartbeats 4000000 in
theorem EqRec_any (xs ys : List Rec) (A A2 : Option Addr) (n c n2 c2 B B2 : Nat) (w : World) (hr : Reads w B 9 A n (recsV xs)) (hr2 : Reads w B2 9 A2 n2 (recsV ys)) (hn : n ≤ 4611686018427387904) (hn2 : n2 ≤ 4611686018427387904) :
    Calls Try.prog 53 #[.slice A n c, .slice A2 n2 c2] w fun e w' => e = .returned (.bool (decide (xs = ys))) ∧ Below w.heap.size w w' := by
  have hxl : xs.length = n := Reads.len Rec.cells_len (by omega) hr
  have hyl : ys.length = n2 := Reads.len Rec.cells_len (by omega) hr2
  by_cases hne : n = n2
  · subst hne
    have HX := Lib.hid hxl
    have HY := Lib.hid hyl
    clear hxl hyl
    go_enter Try.func53, Try.ntmps53
    go_wp2
    go_loopw [13] (fun i wr => ∃ k : Nat, k ≤ n ∧ i = .int .i64 k ∧ xs.take k = ys.take k ∧ Below w.heap.size w wr ∧ Reads wr B 9 A n (recsV xs) ∧ Reads wr B2 9 A2 n (recsV ys)) (fun i _ => n - (intOf i).toNat)
    case atStart => exact ⟨0, by omega, rfl, rfl, Below.refl _ _, hr, hr2⟩
    case round =>
      obtain ⟨k, hk, rfl, htk, hbl, hr', hr2'⟩ := hrel
      have HT := Lib.hid htk
      clear htk hr hr2
      by_cases hlt : k < n
      · obtain ⟨ad, x, rfl, hab, hx, hc⟩ := rec_at hr' hlt
        obtain ⟨ad2, y, rfl, hab2, hy, hc2⟩ := rec_at hr2' hlt
        have HX2 := Lib.hid hx
        have HY2 := Lib.hid hy
        clear hx hy
        have hneq := neq_rec x y
        have hlt' : (k : Int) < (n : Int) := by omega
        obtain ⟨p0, p1, p2, p3, p4, p5, p6, p7, p8⟩ := rec_cells hc
        obtain ⟨q0, q1, q2, q3, q4, q5, q6, q7, q8⟩ := rec_cells hc2
        clear hc hc2
        obtain ⟨x0, x1, x2, x3, x4, x5, x6, x7, x8⟩ := x
        obtain ⟨y0, y1, y2, y3, y4, y5, y6, y7, y8⟩ := y
        dsimp only at *
        by_cases hxy : (⟨x0, x1, x2, x3, x4, x5, x6, x7, x8⟩ : Rec) = ⟨y0, y1, y2, y3, y4, y5, y6, y7, y8⟩
        · have HE := Lib.hid hxy
          rw [decide_eq_true hxy] at hneq
          clear hxy
          have hE2 : take_nextRec_ok xs ys k := fun h => take_nextRec xs ys k _ _ HX2.out HY2.out h HE.out
          have HE2 := Lib.hid hE2
          clear hE2
          go_wp2
          go_quiet (fail)
          go_wp2
          go_roundw
          case rel => exact ⟨k + 1, by omega, by go_num, HE2.out HT.out, below_drewN hbl _, hr', hr2'⟩
          case measure => simp [intOf]; omega
        · have hne : decide (xs = ys) = false := decide_eq_false fun e => hxy (by have := HX2.out; rw [e, HY2.out] at this; exact (Option.some.inj this).symm)
          have HN := Lib.hid hne
          rw [decide_eq_false hxy] at hneq
          clear hxy hne
          go_wp2
          go_quiet (fail)
          go_wp2
          go_ret
          rw [HN.out]
          exact ⟨rfl, below_drewN hbl _⟩
      · obtain rfl : k = n := by omega
        have he : decide (xs = ys) = true := by
          have := HT.out
          rw [List.take_of_length_le (by rw [HX.out]; exact Nat.le_refl _), List.take_of_length_le (by rw [HY.out]; exact Nat.le_refl _)] at this
          exact decide_eq_true this
        have HN := Lib.hid he
        clear he
        go_wp2
        go_ret
        rw [HN.out]
        exact ⟨rfl, hbl⟩
  · have hb : ((n : Int) != (n2 : Int)) = true := by rw [bne_iff_ne]; omega
    have hd : decide (xs = ys) = false := decide_eq_false fun e => hne (by rw [← hxl, ← hyl, e])
    have HD := Lib.hid hd
    clear hne hd hxl hyl
    go_enter Try.func53, Try.ntmps53
    go_wp2
    go_ret
    rw [HD.out]
    exact ⟨rfl, Below.refl _ _⟩
end Go.Proofs.Ytgebopmiefgdoaa

/-
  Contract of ring.Written; the law's example.
-/
import Derived.Test.YtgebopmiefgdoaaRing7
import Derived.Test.YtgebopmiefgdoaaRecRead
namespace Go.Proofs.Ytgebopmiefgdoaa
open Go.RowKit
set_option maxRecDepth 100000 in
set_option maxHeartbeats 4000000 in
theorem Written_any {B g : Nat} {P : List Rec} {at_ high total N : Nat} {v : Value} (bnd : Int) (w : World) (h : RingAt B g P at_ high total v w) (hN : P.length = N) :
    Calls Try.prog 49 #[.pointer (some ⟨g, 0, none⟩), .int .u16 bnd] w fun e w' => e = .returned (.tuple #[Rec.v (lastR (ringL P at_) fun x => !x.read && x.addr == bnd).1, .bool (lastR (ringL P at_) fun x => !x.read && x.addr == bnd).2]) ∧ Below w.heap.size w w' := by
  have hb0 : Below w.heap.size w ((w.alloc (.cells #[.int .u16 bnd] 22)).alloc (.cells zeroArr 64)) := below_alloc (below_alloc (Below.refl _ w) _) _
  have HL := Lib.hid (LastW_any bnd w.heap.size _ (h.below hb0) hN ((Boxed.new w 22 (.int .u16 bnd)).alloc (.cells zeroArr 64)))
  have hz : Blk ((w.alloc (.cells #[.int .u16 bnd] 22)).alloc (.cells zeroArr 64)) (w.heap.size + 1) 64 zeroArr := by
    have h := Blk.new (w.alloc (.cells #[.int .u16 bnd] 22)) 64 zeroArr
    simpa using h
  have HZ := Lib.hid hz
  have HB0 := Lib.hid hb0
  clear h hb0 hz
  generalize lastR (ringL P at_) (fun x => !x.read && x.addr == bnd) = r at *
  obtain ⟨⟨x0, x1, x2, x3, x4, x5, x6, x7, x8⟩, b⟩ := r
  unfold zeroArr at HL
  go_enter Try.func49, Try.ntmps49
  go_wp2_with fail
  refine HL.out.mono ?_
  rintro e w1 ⟨rfl, hb1⟩
  have hb1' : Below ((w.alloc (.cells #[.int .u16 bnd] 22)).alloc (.cells zeroArr 64)).heap.size ((w.alloc (.cells #[.int .u16 bnd] 22)).alloc (.cells zeroArr 64)) w1 := hb1
  have hz1 := HZ.out.below hb1' (by simp)
  have hbl : Below w.heap.size w w1 := below_then HB0.out hb1'
  have z0 := hz1.cell 0
  have z1 := hz1.cell 1
  have z2 := hz1.cell 2
  have z3 := hz1.cell 3
  have z4 := hz1.cell 4
  have z5 := hz1.cell 5
  have z6 := hz1.cell 6
  have z7 := hz1.cell 7
  have z8 := hz1.cell 8
  simp only [zeroArr, List.getElem?_toArray, List.getElem?_cons_zero, List.getElem?_cons_succ] at z0 z1 z2 z3 z4 z5 z6 z7 z8
  have fz := hz1.frozen
  simp only [Rec.v, Rec.cells]
  have HZ1 := Lib.hid hz1
  clear hb1 hb1' HL hz1
  go_wp2
  have hR : Blk (((((((((w1.setCell ⟨w.heap.size + 1, 0, none⟩ (.int .u16 x0)).setCell ⟨w.heap.size + 1, 1, none⟩ (.int .u8 x1)).setCell ⟨w.heap.size + 1, 2, none⟩ (.bool x2)).setCell ⟨w.heap.size + 1, 3, none⟩ (.bool x3)).setCell ⟨w.heap.size + 1, 4, none⟩ (.bool x4)).setCell ⟨w.heap.size + 1, 5, none⟩ (.bool x5)).setCell ⟨w.heap.size + 1, 6, none⟩ (.bool x6)).setCell ⟨w.heap.size + 1, 7, none⟩ (.bool x7)).setCell ⟨w.heap.size + 1, 8, none⟩ (.bool x8)) (w.heap.size + 1) 64 #[.int .u16 x0, .int .u8 x1, .bool x2, .bool x3, .bool x4, .bool x5, .bool x6, .bool x7, .bool x8] := by
    have h := ((((((((HZ1.out.set_ 0 (.int .u16 x0)).set_ 1 (.int .u8 x1)).set_ 2 (.bool x2)).set_ 3 (.bool x3)).set_ 4 (.bool x4)).set_ 5 (.bool x5)).set_ 6 (.bool x6)).set_ 7 (.bool x7)).set_ 8 (.bool x8)
    simpa [zeroArr] using h
  have hB := ((((((((hbl.setCell (p := ⟨w.heap.size + 1, 0, none⟩) (by simp) (.int .u16 x0)).setCell (p := ⟨w.heap.size + 1, 1, none⟩) (by simp) (.int .u8 x1)).setCell (p := ⟨w.heap.size + 1, 2, none⟩) (by simp) (.bool x2)).setCell (p := ⟨w.heap.size + 1, 3, none⟩) (by simp) (.bool x3)).setCell (p := ⟨w.heap.size + 1, 4, none⟩) (by simp) (.bool x4)).setCell (p := ⟨w.heap.size + 1, 5, none⟩) (by simp) (.bool x5)).setCell (p := ⟨w.heap.size + 1, 6, none⟩) (by simp) (.bool x6)).setCell (p := ⟨w.heap.size + 1, 7, none⟩) (by simp) (.bool x7)).setCell (p := ⟨w.heap.size + 1, 8, none⟩) (by simp) (.bool x8)
  refine bodyPost_ret (by refine (results_cell_tmp (p := 4) (q := 5) (ty := 64) ?_ _ _ (w.heap.size + 1) 64 #[.int .u16 x0, .int .u8 x1, .bool x2, .bool x3, .bool x4, .bool x5, .bool x6, .bool x7, .bool x8] (0, 0) _ ?_ hR Try.underlying64 rfl (by kernel_rfl)) <;> rfl) rfl ⟨rfl, hB⟩
set_option maxRecDepth 100000 in
set_option maxHeartbeats 4000000 in
theorem alive58 (w : World) :
    Calls Try.prog 56 #[] w fun e w' => e = .returned (.bool true) ∧ Below w.heap.size w w' := by
  go_enter Try.func56, Try.ntmps56
  go_wp2_with fail
  refine (RNew_any 1 1 w (by omega)).mono ?_
  rintro e w1 ⟨rfl, hR, hb1⟩
  have HR := Lib.hid hR
  have hs1 := hR.blk.lt
  clear hR
  have hr0 : Reads (w1.alloc (.cells #[.int .u16 1, .int .u8 0, .bool false, .bool false, .bool false, .bool false, .bool false, .bool false, .bool false, .int .u16 2, .int .u8 0, .bool false, .bool false, .bool false, .bool false, .bool false, .bool false, .bool false] 64)) (w1.alloc (.cells #[.int .u16 1, .int .u8 0, .bool false, .bool false, .bool false, .bool false, .bool false, .bool false, .bool false, .int .u16 2, .int .u8 0, .bool false, .bool false, .bool false, .bool false, .bool false, .bool false, .bool false] 64)).heap.size 9 (some ⟨w1.heap.size, 0, none⟩) 2 (recsV [⟨1, 0, false, false, false, false, false, false, false⟩, ⟨2, 0, false, false, false, false, false, false, false⟩]) := by
    refine ⟨rfl, fun _ => ⟨_, rfl, by simp, fun j u hu => ?_⟩⟩
    rw [addr_add0, (Blk.new w1 64 _).cell j]
    simpa [recsV, Rec.cells] using hu
  have HR1 := Lib.hid (HR.out.below (below_alloc (Below.refl _ w1) (.cells #[.int .u16 1, .int .u8 0, .bool false, .bool false, .bool false, .bool false, .bool false, .bool false, .bool false, .int .u16 2, .int .u8 0, .bool false, .bool false, .bool false, .bool false, .bool false, .bool false, .bool false] 64)))
  have HADD := Lib.hid (RAdd_any [⟨1, 0, false, false, false, false, false, false, false⟩, ⟨2, 0, false, false, false, false, false, false, false⟩] (some ⟨w1.heap.size, 0, none⟩) 2 2 _ HR1.out (by have := hb1.size; simp; omega) hr0 (fun ad _ e => by injection e with e; subst e; exact ⟨by dsimp only; omega, by simp [Value.ownBlock]⟩) (by omega) (by omega))
  have hbl1 := below_alloc hb1 (.cells #[.int .u16 1, .int .u8 0, .bool false, .bool false, .bool false, .bool false, .bool false, .bool false, .bool false, .int .u16 2, .int .u8 0, .bool false, .bool false, .bool false, .bool false, .bool false, .bool false, .bool false] 64)
  clear hr0 HR1
  go_wp2_with fail
  refine HADD.out.mono ?_
  rintro e w2 ⟨rfl, P', at', v', hR2, hL2, hon2, _⟩
  have hbl2 : Below w.heap.size w w2 := hbl1.trans (hon2.below (by have := hb1.size; simp; omega) (Nat.le_refl _) (fun q e => by simp [Value.ownBlock] at e))
  replace hL2 : ringL P' at' = [⟨2, 0, false, false, false, false, false, false, false⟩] := hL2
  have hP1 : P'.length = 1 := by rw [← ringL_len P' at', hL2]; rfl
  have HR2 := Lib.hid hR2
  have HL2 := Lib.hid hL2
  have HP1 := Lib.hid hP1
  clear hR2 hL2 hP1 hon2 hbl1 HADD HR
  go_wp2_with fail
  refine (RLen_any 1 w2 HR2.out HP1.out).mono ?_
  rintro e w3 ⟨rfl, rfl⟩
  go_wp2_with fail
  refine (RTotal_any w2 HR2.out).mono ?_
  rintro e w3 ⟨rfl, rfl⟩
  go_wp2_with fail
  refine (RAll_any w2 HR2.out HP1.out).mono ?_
  rintro e w3 ⟨v3, rfl, hown3, hb3⟩
  obtain ⟨A3, c3, rfl, hr3, _, _⟩ := own_reads hown3
  rw [HL2.out] at hr3
  have hbl3 := below_then hbl2 hb3
  clear hown3 hb3
  have hr3' := hr3.below (below_alloc (Below.refl _ w3) (.cells #[.int .u16 2, .int .u8 0, .bool false, .bool false, .bool false, .bool false, .bool false, .bool false, .bool false] 64))
  have hr4 : Reads (w3.alloc (.cells #[.int .u16 2, .int .u8 0, .bool false, .bool false, .bool false, .bool false, .bool false, .bool false, .bool false] 64)) (w3.heap.size + 1) 9 (some ⟨w3.heap.size, 0, none⟩) 1 (recsV [⟨2, 0, false, false, false, false, false, false, false⟩]) := by
    refine ⟨rfl, fun _ => ⟨_, rfl, Nat.lt_succ_self _, fun j u hu => ?_⟩⟩
    rw [addr_add0, (Blk.new w3 64 _).cell j]
    simpa [recsV, Rec.cells] using hu
  go_wp2_with fail
  have HE := EqRec_any _ _ A3 (some ⟨w3.heap.size, 0, none⟩) 1 c3 1 1 _ _ _ hr3' hr4 (by omega) (by omega)
  rw [decide_eq_true rfl] at HE
  refine HE.mono ?_
  rintro e w4 ⟨rfl, hb4⟩
  clear hr3 hr3' hr4 HE
  go_wp2_with fail
  go_ret
  exact ⟨rfl, below_then (below_alloc hbl3 _) hb4⟩
end Go.Proofs.Ytgebopmiefgdoaa

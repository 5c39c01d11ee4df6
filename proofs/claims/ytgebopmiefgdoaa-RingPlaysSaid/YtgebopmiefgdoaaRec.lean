/-
  A record's levels as a row of seven, and back: contracts of record.lines and record.with.
-/
import Derived.Test.YtgebopmiefgdoaaPairs
import Derived.Test.YtgebopmiefgdoaaConf
import Derived.Test.YtgebopmiefgdoaaDec
import Derived.Deep.RegionHeld3
namespace Go.Proofs.Ytgebopmiefgdoaa
open Go.RowKit
set_option maxRecDepth 100000 in
set_option maxHeartbeats 2000000 in
theorem lines_any (a d : Int) (b0 b1 b2 b3 b4 b5 b6 : Bool) (w : World) :
    Calls Try.prog 121 #[.agg #[.int .u16 a, .int .u8 d, .bool b0, .bool b1, .bool b2, .bool b3, .bool b4, .bool b5, .bool b6]] w fun e w' => e = .returned (.agg #[.bool b0, .bool b1, .bool b2, .bool b3, .bool b4, .bool b5, .bool b6]) ∧ Below w.heap.size w w' := by
  go_enter Try.func121, Try.ntmps121
  go_wp2
  refine bodyPost_ret (by first | (simp [results, Try.results121, go_sem]; done) | (simp [results, Try.results121, go_sem]; rfl)) rfl ⟨rfl, ?_⟩
  repeat (first | exact Below.refl _ _ | apply below_alloc | apply below_drewN | (refine Below.setCell ?_ (by simp) _))
set_option maxRecDepth 100000 in
set_option maxHeartbeats 2000000 in
theorem with_any (a d : Int) (x0 x1 x2 x3 x4 x5 x6 b0 b1 b2 b3 b4 b5 b6 : Bool) (w : World) :
    Calls Try.prog 113 #[.agg #[.int .u16 a, .int .u8 d, .bool x0, .bool x1, .bool x2, .bool x3, .bool x4, .bool x5, .bool x6], .agg #[.bool b0, .bool b1, .bool b2, .bool b3, .bool b4, .bool b5, .bool b6]] w fun e w' => e = .returned (.agg #[.int .u16 a, .int .u8 d, .bool b0, .bool b1, .bool b2, .bool b3, .bool b4, .bool b5, .bool b6]) ∧ Below w.heap.size w w' := by
  go_enter Try.func113, Try.ntmps113
  go_wp2
  have B2 : Blk (((w.alloc (.cells #[.int .u16 a, .int .u8 d, .bool x0, .bool x1, .bool x2, .bool x3, .bool x4, .bool x5, .bool x6] 64)).alloc (.cells #[.bool b0, .bool b1, .bool b2, .bool b3, .bool b4, .bool b5, .bool b6] 155)).alloc (.cells #[.int .u16 0, .int .u8 0, .bool false, .bool false, .bool false, .bool false, .bool false, .bool false, .bool false] 64)) w.heap.size 64 #[.int .u16 a, .int .u8 d, .bool x0, .bool x1, .bool x2, .bool x3, .bool x4, .bool x5, .bool x6] := ((Blk.new w _ _).alloc _).alloc _
  have B3 : Blk (((w.alloc (.cells #[.int .u16 a, .int .u8 d, .bool x0, .bool x1, .bool x2, .bool x3, .bool x4, .bool x5, .bool x6] 64)).alloc (.cells #[.bool b0, .bool b1, .bool b2, .bool b3, .bool b4, .bool b5, .bool b6] 155)).alloc (.cells #[.int .u16 0, .int .u8 0, .bool false, .bool false, .bool false, .bool false, .bool false, .bool false, .bool false] 64)) (w.heap.size + 1) 155 #[.bool b0, .bool b1, .bool b2, .bool b3, .bool b4, .bool b5, .bool b6] := by
    have h := (Blk.new (w.alloc (.cells #[.int .u16 a, .int .u8 d, .bool x0, .bool x1, .bool x2, .bool x3, .bool x4, .bool x5, .bool x6] 64)) 155 #[.bool b0, .bool b1, .bool b2, .bool b3, .bool b4, .bool b5, .bool b6]).alloc (.cells #[.int .u16 0, .int .u8 0, .bool false, .bool false, .bool false, .bool false, .bool false, .bool false, .bool false] 64)
    simpa using h
  have B4 : Blk (((w.alloc (.cells #[.int .u16 a, .int .u8 d, .bool x0, .bool x1, .bool x2, .bool x3, .bool x4, .bool x5, .bool x6] 64)).alloc (.cells #[.bool b0, .bool b1, .bool b2, .bool b3, .bool b4, .bool b5, .bool b6] 155)).alloc (.cells #[.int .u16 0, .int .u8 0, .bool false, .bool false, .bool false, .bool false, .bool false, .bool false, .bool false] 64)) (w.heap.size + 2) 64 #[.int .u16 0, .int .u8 0, .bool false, .bool false, .bool false, .bool false, .bool false, .bool false, .bool false] := by
    have h := Blk.new ((w.alloc (.cells #[.int .u16 a, .int .u8 d, .bool x0, .bool x1, .bool x2, .bool x3, .bool x4, .bool x5, .bool x6] 64)).alloc (.cells #[.bool b0, .bool b1, .bool b2, .bool b3, .bool b4, .bool b5, .bool b6] 155)) 64 #[.int .u16 0, .int .u8 0, .bool false, .bool false, .bool false, .bool false, .bool false, .bool false, .bool false]
    simpa using h
  have HB : Below w.heap.size w (((w.alloc (.cells #[.int .u16 a, .int .u8 d, .bool x0, .bool x1, .bool x2, .bool x3, .bool x4, .bool x5, .bool x6] 64)).alloc (.cells #[.bool b0, .bool b1, .bool b2, .bool b3, .bool b4, .bool b5, .bool b6] 155)).alloc (.cells #[.int .u16 0, .int .u8 0, .bool false, .bool false, .bool false, .bool false, .bool false, .bool false, .bool false] 64)) := below_alloc (below_alloc (below_alloc (Below.refl _ _) _) _) _
  generalize (((w.alloc (.cells #[.int .u16 a, .int .u8 d, .bool x0, .bool x1, .bool x2, .bool x3, .bool x4, .bool x5, .bool x6] 64)).alloc (.cells #[.bool b0, .bool b1, .bool b2, .bool b3, .bool b4, .bool b5, .bool b6] 155)).alloc (.cells #[.int .u16 0, .int .u8 0, .bool false, .bool false, .bool false, .bool false, .bool false, .bool false, .bool false] 64)) = W at *
  have c0 := B3.cell 0
  have c1 := B3.cell 1
  have c2 := B3.cell 2
  have c3 := B3.cell 3
  have c4 := B3.cell 4
  have c5 := B3.cell 5
  have c6 := B3.cell 6
  have e0 := B2.cell 0
  have e1 := B2.cell 1
  have e2 := B2.cell 2
  have e3 := B2.cell 3
  have e4 := B2.cell 4
  have e5 := B2.cell 5
  have e6 := B2.cell 6
  have e7 := B2.cell 7
  have e8 := B2.cell 8
  have f2 := B2.frozen
  have f4 := B4.frozen
  have hz := B4.lt
  simp only [List.getElem?_toArray, List.getElem?_cons_zero, List.getElem?_cons_succ] at c0 c1 c2 c3 c4 c5 c6 e0 e1 e2 e3 e4 e5 e6 e7 e8
  clear B3
  go_region_held3 (fun w' => w'.cell? ⟨w.heap.size + 1, 0, none⟩ = some (.bool b0) ∧ w'.cell? ⟨w.heap.size + 1, 1, none⟩ = some (.bool b1) ∧ w'.cell? ⟨w.heap.size + 1, 2, none⟩ = some (.bool b2) ∧ w'.cell? ⟨w.heap.size + 1, 3, none⟩ = some (.bool b3) ∧ w'.cell? ⟨w.heap.size + 1, 4, none⟩ = some (.bool b4) ∧ w'.cell? ⟨w.heap.size + 1, 5, none⟩ = some (.bool b5) ∧ w'.cell? ⟨w.heap.size + 1, 6, none⟩ = some (.bool b6)) (((try dsimp only); (repeat' apply And.intro) <;> first | omega | (go_keep; done) | (simp; omega))) (fail)
  have hF : Blk ((((((((W.setCell ⟨w.heap.size, 2, none⟩ (.bool b0)).setCell ⟨w.heap.size, 3, none⟩ (.bool b1)).setCell ⟨w.heap.size, 4, none⟩ (.bool b2)).setCell ⟨w.heap.size, 5, none⟩ (.bool b3)).setCell ⟨w.heap.size, 6, none⟩ (.bool b4)).setCell ⟨w.heap.size, 7, none⟩ (.bool b5)).setCell ⟨w.heap.size, 8, none⟩ (.bool b6)).drew) w.heap.size 64 #[.int .u16 a, .int .u8 d, .bool b0, .bool b1, .bool b2, .bool b3, .bool b4, .bool b5, .bool b6] := (((((((B2.set_ 2 _).set_ 3 _).set_ 4 _).set_ 5 _).set_ 6 _).set_ 7 _).set_ 8 _).drew
  have hG : Blk ((((((((W.setCell ⟨w.heap.size, 2, none⟩ (.bool b0)).setCell ⟨w.heap.size, 3, none⟩ (.bool b1)).setCell ⟨w.heap.size, 4, none⟩ (.bool b2)).setCell ⟨w.heap.size, 5, none⟩ (.bool b3)).setCell ⟨w.heap.size, 6, none⟩ (.bool b4)).setCell ⟨w.heap.size, 7, none⟩ (.bool b5)).setCell ⟨w.heap.size, 8, none⟩ (.bool b6)).drew) (w.heap.size + 1 + 1) 64 #[.int .u16 0, .int .u8 0, .bool false, .bool false, .bool false, .bool false, .bool false, .bool false, .bool false] := (((((((B4.far (by simp) _).far (by simp) _).far (by simp) _).far (by simp) _).far (by simp) _).far (by simp) _).far (by simp) _).drew
  have hB : Below w.heap.size w ((((((((W.setCell ⟨w.heap.size, 2, none⟩ (.bool b0)).setCell ⟨w.heap.size, 3, none⟩ (.bool b1)).setCell ⟨w.heap.size, 4, none⟩ (.bool b2)).setCell ⟨w.heap.size, 5, none⟩ (.bool b3)).setCell ⟨w.heap.size, 6, none⟩ (.bool b4)).setCell ⟨w.heap.size, 7, none⟩ (.bool b5)).setCell ⟨w.heap.size, 8, none⟩ (.bool b6)).drew) := below_drewN (((((((HB.setCell (Nat.le_refl _) _).setCell (Nat.le_refl _) _).setCell (Nat.le_refl _) _).setCell (Nat.le_refl _) _).setCell (Nat.le_refl _) _).setCell (Nat.le_refl _) _).setCell (Nat.le_refl _) _) 1
  generalize (((((((W.setCell ⟨w.heap.size, 2, none⟩ (.bool b0)).setCell ⟨w.heap.size, 3, none⟩ (.bool b1)).setCell ⟨w.heap.size, 4, none⟩ (.bool b2)).setCell ⟨w.heap.size, 5, none⟩ (.bool b3)).setCell ⟨w.heap.size, 6, none⟩ (.bool b4)).setCell ⟨w.heap.size, 7, none⟩ (.bool b5)).setCell ⟨w.heap.size, 8, none⟩ (.bool b6)).drew = V at *
  clear c0 c1 c2 c3 c4 c5 c6 B4 B2 e0 e1 e2 e3 e4 e5 e6 e7 e8 f2 f4 hz HB
  have hFF := Lib.hid hF
  have hGG := Lib.hid hG
  clear hG hF
  go_wp2_with (first | (refine wpList_load_row rfl 64 (.tmp 2) rfl w.heap.size rfl 64 #[.int .u16 a, .int .u8 d, .bool b0, .bool b1, .bool b2, .bool b3, .bool b4, .bool b5, .bool b6] (0, 0) _ hFF.out Try.underlying64 rfl (by kernel_rfl) ?_) | (refine wpList_store_row rfl 64 (.tmp 4) (.tmp 26) rfl (w.heap.size + 1 + 1) #[.int .u16 a, .int .u8 d, .bool b0, .bool b1, .bool b2, .bool b3, .bool b4, .bool b5, .bool b6] rfl rfl 64 #[.int .u16 0, .int .u8 0, .bool false, .bool false, .bool false, .bool false, .bool false, .bool false, .bool false] hGG.out (by kernel_rfl) rfl (by simp [Value.oneCell']) ?_))
  have hR := setRow_heap V (w.heap.size + 1 + 1) _ #[.int .u16 a, .int .u8 d, .bool b0, .bool b1, .bool b2, .bool b3, .bool b4, .bool b5, .bool b6] _ _ hGG.out
  have hB2 : Below w.heap.size w (V.setRow (w.heap.size + 1 + 1) #[.int .u16 a, .int .u8 d, .bool b0, .bool b1, .bool b2, .bool b3, .bool b4, .bool b5, .bool b6]) := hB.trans ⟨rfl, rfl, rfl, by simp [World.setRow], fun k hk => setRow_other V _ k _ (by omega)⟩
  refine bodyPost_ret (by exact results_cell_row rfl _ _ (w.heap.size + 1 + 1) 64 _ (0, 0) _ rfl hR Try.underlying64 rfl (by kernel_rfl)) rfl ⟨rfl, hB2⟩
end Go.Proofs.Ytgebopmiefgdoaa

/-
  Contracts of the package page, third part.
-/
import Derived.Test.YtkdaphkpllgmbaaGreatM18
namespace Go.Proofs.YtkdaphkpllgmbaaGreat
open Go.RowKit Sp
attribute [local go_sem] Ent.v Ent.cells
theorem i64_in (n : Int) (h0 : -9223372036854775808 ≤ n) (h1 : n < 9223372036854775808) : IntKind.i64.wrap n = n := by
  simp [IntKind.wrap, IntKind.bits, IntKind.signed]; omega
set_option maxRecDepth 100000 in
set_option maxHeartbeats 4000000 in
theorem pageFirst_0 (code low : Int) (w : World) (hh : code / 16 = 0) (hl : Go.bits .and .u8 code 15 = low) (h : 0 ≤ low ∧ low < 16) :
    Calls Tryz.prog 186 #[.int .u8 code] w fun e w' => e = .returned (pageFirst 0 low).v ∧ Below w.heap.size w w' := by
  go_enter Tryz.func186, Tryz.ntmps186
  go_wp2_with (go_at_call 222; refine (pageMemory_any low 3 _ h).mono ?_; rintro e w1 ⟨rfl, rfl⟩)
  exact bodyPost_ret (by exact results_cell_row rfl _ _ w.heap.size 121 _ (0, 0) _ rfl (Blk.alloc (heap_alloc_new w _) _) Tryz.underlying121 rfl (by kernel_rfl)) rfl ⟨rfl, below_alloc (below_alloc (Below.refl _ _) _) _⟩
set_option maxRecDepth 100000 in
set_option maxHeartbeats 4000000 in
theorem pageFirst_1 (code low : Int) (w : World) (hh : code / 16 = 1) (hl : Go.bits .and .u8 code 15 = low) (h : 0 ≤ low ∧ low < 16) :
    Calls Tryz.prog 186 #[.int .u8 code] w fun e w' => e = .returned (pageFirst 1 low).v ∧ Below w.heap.size w w' := by
  go_enter Tryz.func186, Tryz.ntmps186
  go_wp2_with (go_at_call 223; refine (pageTens_any low _ h).mono ?_; rintro e w1 ⟨rfl, rfl⟩)
  exact bodyPost_ret (by exact results_cell_row rfl _ _ w.heap.size 121 _ (0, 0) _ rfl (Blk.alloc (heap_alloc_new w _) _) Tryz.underlying121 rfl (by kernel_rfl)) rfl ⟨rfl, below_alloc (below_alloc (Below.refl _ _) _) _⟩
set_option maxRecDepth 100000 in
set_option maxHeartbeats 4000000 in
theorem pageFirst_2 (code low : Int) (w : World) (hh : code / 16 = 2) (hl : Go.bits .and .u8 code 15 = low) (h : 0 ≤ low ∧ low < 16) :
    Calls Tryz.prog 186 #[.int .u8 code] w fun e w' => e = .returned (pageFirst 2 low).v ∧ Below w.heap.size w w' := by
  have e4 : IntKind.i64.wrap low = low := i64_in _ (by omega) (by omega)
  go_enter Tryz.func186, Tryz.ntmps186
  go_wp2
  exact bodyPost_ret (by exact results_cell_row rfl _ _ w.heap.size 121 _ (0, 0) _ rfl (heap_alloc_new w _) Tryz.underlying121 rfl (by kernel_rfl)) rfl ⟨rfl, below_alloc (Below.refl _ _) _⟩
set_option maxRecDepth 100000 in
set_option maxHeartbeats 4000000 in
theorem pageFirst_3 (code low : Int) (w : World) (hh : code / 16 = 3) (hl : Go.bits .and .u8 code 15 = low) (h : 0 ≤ low ∧ low < 16) :
    Calls Tryz.prog 186 #[.int .u8 code] w fun e w' => e = .returned (pageFirst 3 low).v ∧ Below w.heap.size w w' := by
  go_enter Tryz.func186, Tryz.ntmps186
  go_wp2_with (go_at_call 224; refine (pageThirties_any low _ h).mono ?_; rintro e w1 ⟨rfl, rfl⟩)
  exact bodyPost_ret (by exact results_cell_row rfl _ _ w.heap.size 121 _ (0, 0) _ rfl (Blk.alloc (heap_alloc_new w _) _) Tryz.underlying121 rfl (by kernel_rfl)) rfl ⟨rfl, below_alloc (below_alloc (Below.refl _ _) _) _⟩
set_option maxRecDepth 100000 in
set_option maxHeartbeats 4000000 in
theorem pageFirst_4 (code low : Int) (w : World) (hh : code / 16 = 4) (hl : Go.bits .and .u8 code 15 = low) (h : 0 ≤ low ∧ low < 16) :
    Calls Tryz.prog 186 #[.int .u8 code] w fun e w' => e = .returned (pageFirst 4 low).v ∧ Below w.heap.size w w' := by
  go_enter Tryz.func186, Tryz.ntmps186
  go_wp2_with (go_at_call 225; refine (pageInside_any low 8 _ h).mono ?_; rintro e w1 ⟨rfl, rfl⟩)
  exact bodyPost_ret (by exact results_cell_row rfl _ _ w.heap.size 121 _ (0, 0) _ rfl (Blk.alloc (heap_alloc_new w _) _) Tryz.underlying121 rfl (by kernel_rfl)) rfl ⟨rfl, below_alloc (below_alloc (Below.refl _ _) _) _⟩
set_option maxRecDepth 100000 in
set_option maxHeartbeats 4000000 in
theorem pageFirst_5 (code low : Int) (w : World) (hh : code / 16 = 5) (hl : Go.bits .and .u8 code 15 = low) (h : 0 ≤ low ∧ low < 16) :
    Calls Tryz.prog 186 #[.int .u8 code] w fun e w' => e = .returned (pageFirst 5 low).v ∧ Below w.heap.size w w' := by
  go_enter Tryz.func186, Tryz.ntmps186
  go_wp2_with (go_at_call 225; refine (pageInside_any low 9 _ h).mono ?_; rintro e w1 ⟨rfl, rfl⟩)
  exact bodyPost_ret (by exact results_cell_row rfl _ _ w.heap.size 121 _ (0, 0) _ rfl (Blk.alloc (heap_alloc_new w _) _) Tryz.underlying121 rfl (by kernel_rfl)) rfl ⟨rfl, below_alloc (below_alloc (Below.refl _ _) _) _⟩
set_option maxRecDepth 100000 in
set_option maxHeartbeats 4000000 in
theorem pageFirst_6 (code low : Int) (w : World) (hh : code / 16 = 6) (hl : Go.bits .and .u8 code 15 = low) (h : 0 ≤ low ∧ low < 16) :
    Calls Tryz.prog 186 #[.int .u8 code] w fun e w' => e = .returned (pageFirst 6 low).v ∧ Below w.heap.size w w' := by
  go_enter Tryz.func186, Tryz.ntmps186
  go_wp2_with (go_at_call 222; refine (pageMemory_any low 4 _ h).mono ?_; rintro e w1 ⟨rfl, rfl⟩)
  exact bodyPost_ret (by exact results_cell_row rfl _ _ w.heap.size 121 _ (0, 0) _ rfl (Blk.alloc (heap_alloc_new w _) _) Tryz.underlying121 rfl (by kernel_rfl)) rfl ⟨rfl, below_alloc (below_alloc (Below.refl _ _) _) _⟩
set_option maxRecDepth 100000 in
set_option maxHeartbeats 4000000 in
theorem pageFirst_7 (code low : Int) (w : World) (hh : code / 16 = 7) (hl : Go.bits .and .u8 code 15 = low) (h : 0 ≤ low ∧ low < 16) :
    Calls Tryz.prog 186 #[.int .u8 code] w fun e w' => e = .returned (pageFirst 7 low).v ∧ Below w.heap.size w w' := by
  go_enter Tryz.func186, Tryz.ntmps186
  go_wp2_with (go_at_call 222; refine (pageMemory_any low 5 _ h).mono ?_; rintro e w1 ⟨rfl, rfl⟩)
  exact bodyPost_ret (by exact results_cell_row rfl _ _ w.heap.size 121 _ (0, 0) _ rfl (Blk.alloc (heap_alloc_new w _) _) Tryz.underlying121 rfl (by kernel_rfl)) rfl ⟨rfl, below_alloc (below_alloc (Below.refl _ _) _) _⟩
set_option maxRecDepth 100000 in
set_option maxHeartbeats 4000000 in
theorem pageFirst_8 (code low : Int) (w : World) (hh : code / 16 = 8) (hl : Go.bits .and .u8 code 15 = low) (h : 0 ≤ low ∧ low < 16) :
    Calls Tryz.prog 186 #[.int .u8 code] w fun e w' => e = .returned (pageFirst 8 low).v ∧ Below w.heap.size w w' := by
  go_enter Tryz.func186, Tryz.ntmps186
  go_wp2_with (go_at_call 226; refine (pageColumns_8 low _ h).mono ?_; rintro e w1 ⟨rfl, hb⟩; have hB := (Blk.new w 121 _).below hb (by simp); have q0 := hB.cell 0; have q1 := hB.cell 1; have q2 := hB.cell 2; have f0 := hB.frozen 0; have f1 := hB.frozen 1; have f2 := hB.frozen 2)
  exact bodyPost_ret (by exact results_cell_row rfl _ _ w.heap.size 121 _ (0, 0) _ rfl (((hB.set_ 0 _).set_ 1 _).set_ 2 _) Tryz.underlying121 rfl (by kernel_rfl)) rfl ⟨rfl, (((below_then (below_alloc (Below.refl _ _) _) hb).setCell (Nat.le_refl _) _).setCell (Nat.le_refl _) _).setCell (Nat.le_refl _) _⟩
set_option maxRecDepth 100000 in
set_option maxHeartbeats 4000000 in
theorem pageFirst_9 (code low : Int) (w : World) (hh : code / 16 = 9) (hl : Go.bits .and .u8 code 15 = low) (h : 0 ≤ low ∧ low < 16) :
    Calls Tryz.prog 186 #[.int .u8 code] w fun e w' => e = .returned (pageFirst 9 low).v ∧ Below w.heap.size w w' := by
  go_enter Tryz.func186, Tryz.ntmps186
  go_wp2_with (go_at_call 226; refine (pageColumns_9 low _ h).mono ?_; rintro e w1 ⟨rfl, hb⟩; have hB := (Blk.new w 121 _).below hb (by simp); have q0 := hB.cell 0; have q1 := hB.cell 1; have q2 := hB.cell 2; have f0 := hB.frozen 0; have f1 := hB.frozen 1; have f2 := hB.frozen 2)
  exact bodyPost_ret (by exact results_cell_row rfl _ _ w.heap.size 121 _ (0, 0) _ rfl (((hB.set_ 0 _).set_ 1 _).set_ 2 _) Tryz.underlying121 rfl (by kernel_rfl)) rfl ⟨rfl, (((below_then (below_alloc (Below.refl _ _) _) hb).setCell (Nat.le_refl _) _).setCell (Nat.le_refl _) _).setCell (Nat.le_refl _) _⟩
set_option maxRecDepth 100000 in
set_option maxHeartbeats 4000000 in
theorem pageFirst_10 (code low : Int) (w : World) (hh : code / 16 = 10) (hl : Go.bits .and .u8 code 15 = low) (h : 0 ≤ low ∧ low < 16) :
    Calls Tryz.prog 186 #[.int .u8 code] w fun e w' => e = .returned (pageFirst 10 low).v ∧ Below w.heap.size w w' := by
  go_enter Tryz.func186, Tryz.ntmps186
  go_wp2_with (go_at_call 226; refine (pageColumns_10 low _ h).mono ?_; rintro e w1 ⟨rfl, hb⟩; have hB := (Blk.new w 121 _).below hb (by simp); have q0 := hB.cell 0; have q1 := hB.cell 1; have q2 := hB.cell 2; have f0 := hB.frozen 0; have f1 := hB.frozen 1; have f2 := hB.frozen 2)
  exact bodyPost_ret (by exact results_cell_row rfl _ _ w.heap.size 121 _ (0, 0) _ rfl (((hB.set_ 0 _).set_ 1 _).set_ 2 _) Tryz.underlying121 rfl (by kernel_rfl)) rfl ⟨rfl, (((below_then (below_alloc (Below.refl _ _) _) hb).setCell (Nat.le_refl _) _).setCell (Nat.le_refl _) _).setCell (Nat.le_refl _) _⟩
set_option maxRecDepth 100000 in
set_option maxHeartbeats 4000000 in
theorem pageFirst_11 (code low : Int) (w : World) (hh : code / 16 = 11) (hl : Go.bits .and .u8 code 15 = low) (h : 0 ≤ low ∧ low < 16) :
    Calls Tryz.prog 186 #[.int .u8 code] w fun e w' => e = .returned (pageFirst 11 low).v ∧ Below w.heap.size w w' := by
  go_enter Tryz.func186, Tryz.ntmps186
  go_wp2_with (go_at_call 226; refine (pageColumns_11 low _ h).mono ?_; rintro e w1 ⟨rfl, hb⟩; have hB := (Blk.new w 121 _).below hb (by simp); have q0 := hB.cell 0; have q1 := hB.cell 1; have q2 := hB.cell 2; have f0 := hB.frozen 0; have f1 := hB.frozen 1; have f2 := hB.frozen 2)
  exact bodyPost_ret (by exact results_cell_row rfl _ _ w.heap.size 121 _ (0, 0) _ rfl (((hB.set_ 0 _).set_ 1 _).set_ 2 _) Tryz.underlying121 rfl (by kernel_rfl)) rfl ⟨rfl, (((below_then (below_alloc (Below.refl _ _) _) hb).setCell (Nat.le_refl _) _).setCell (Nat.le_refl _) _).setCell (Nat.le_refl _) _⟩
set_option maxRecDepth 100000 in
set_option maxHeartbeats 4000000 in
theorem pageFirst_12 (code low : Int) (w : World) (hh : code / 16 = 12) (hl : Go.bits .and .u8 code 15 = low) (h : 0 ≤ low ∧ low < 16) :
    Calls Tryz.prog 186 #[.int .u8 code] w fun e w' => e = .returned (pageFirst 12 low).v ∧ Below w.heap.size w w' := by
  go_enter Tryz.func186, Tryz.ntmps186
  go_wp2_with (go_at_call 226; refine (pageColumns_12 low _ h).mono ?_; rintro e w1 ⟨rfl, hb⟩; have hB := (Blk.new w 121 _).below hb (by simp); have q0 := hB.cell 0; have q1 := hB.cell 1; have q2 := hB.cell 2; have f0 := hB.frozen 0; have f1 := hB.frozen 1; have f2 := hB.frozen 2)
  exact bodyPost_ret (by exact results_cell_row rfl _ _ w.heap.size 121 _ (0, 0) _ rfl (((hB.set_ 0 _).set_ 1 _).set_ 2 _) Tryz.underlying121 rfl (by kernel_rfl)) rfl ⟨rfl, (((below_then (below_alloc (Below.refl _ _) _) hb).setCell (Nat.le_refl _) _).setCell (Nat.le_refl _) _).setCell (Nat.le_refl _) _⟩
set_option maxRecDepth 100000 in
set_option maxHeartbeats 4000000 in
theorem pageFirst_13 (code low : Int) (w : World) (hh : code / 16 = 13) (hl : Go.bits .and .u8 code 15 = low) (h : 0 ≤ low ∧ low < 16) :
    Calls Tryz.prog 186 #[.int .u8 code] w fun e w' => e = .returned (pageFirst 13 low).v ∧ Below w.heap.size w w' := by
  go_enter Tryz.func186, Tryz.ntmps186
  go_wp2_with (go_at_call 226; refine (pageColumns_13 low _ h).mono ?_; rintro e w1 ⟨rfl, hb⟩; have hB := (Blk.new w 121 _).below hb (by simp); have q0 := hB.cell 0; have q1 := hB.cell 1; have q2 := hB.cell 2; have f0 := hB.frozen 0; have f1 := hB.frozen 1; have f2 := hB.frozen 2)
  exact bodyPost_ret (by exact results_cell_row rfl _ _ w.heap.size 121 _ (0, 0) _ rfl (((hB.set_ 0 _).set_ 1 _).set_ 2 _) Tryz.underlying121 rfl (by kernel_rfl)) rfl ⟨rfl, (((below_then (below_alloc (Below.refl _ _) _) hb).setCell (Nat.le_refl _) _).setCell (Nat.le_refl _) _).setCell (Nat.le_refl _) _⟩
set_option maxRecDepth 100000 in
set_option maxHeartbeats 4000000 in
theorem pageFirst_14 (code low : Int) (w : World) (hh : code / 16 = 14) (hl : Go.bits .and .u8 code 15 = low) (h : 0 ≤ low ∧ low < 16) :
    Calls Tryz.prog 186 #[.int .u8 code] w fun e w' => e = .returned (pageFirst 14 low).v ∧ Below w.heap.size w w' := by
  go_enter Tryz.func186, Tryz.ntmps186
  go_wp2_with (go_at_call 226; refine (pageColumns_14 low _ h).mono ?_; rintro e w1 ⟨rfl, hb⟩; have hB := (Blk.new w 121 _).below hb (by simp); have q0 := hB.cell 0; have q1 := hB.cell 1; have q2 := hB.cell 2; have f0 := hB.frozen 0; have f1 := hB.frozen 1; have f2 := hB.frozen 2)
  exact bodyPost_ret (by exact results_cell_row rfl _ _ w.heap.size 121 _ (0, 0) _ rfl (((hB.set_ 0 _).set_ 1 _).set_ 2 _) Tryz.underlying121 rfl (by kernel_rfl)) rfl ⟨rfl, (((below_then (below_alloc (Below.refl _ _) _) hb).setCell (Nat.le_refl _) _).setCell (Nat.le_refl _) _).setCell (Nat.le_refl _) _⟩
set_option maxRecDepth 100000 in
set_option maxHeartbeats 4000000 in
theorem pageFirst_15 (code low : Int) (w : World) (hh : code / 16 = 15) (hl : Go.bits .and .u8 code 15 = low) (h : 0 ≤ low ∧ low < 16) :
    Calls Tryz.prog 186 #[.int .u8 code] w fun e w' => e = .returned (pageFirst 15 low).v ∧ Below w.heap.size w w' := by
  go_enter Tryz.func186, Tryz.ntmps186
  go_wp2_with (go_at_call 226; refine (pageColumns_15 low _ h).mono ?_; rintro e w1 ⟨rfl, hb⟩; have hB := (Blk.new w 121 _).below hb (by simp); have q0 := hB.cell 0; have q1 := hB.cell 1; have q2 := hB.cell 2; have f0 := hB.frozen 0; have f1 := hB.frozen 1; have f2 := hB.frozen 2)
  exact bodyPost_ret (by exact results_cell_row rfl _ _ w.heap.size 121 _ (0, 0) _ rfl (((hB.set_ 0 _).set_ 1 _).set_ 2 _) Tryz.underlying121 rfl (by kernel_rfl)) rfl ⟨rfl, (((below_then (below_alloc (Below.refl _ _) _) hb).setCell (Nat.le_refl _) _).setCell (Nat.le_refl _) _).setCell (Nat.le_refl _) _⟩
end Go.Proofs.YtkdaphkpllgmbaaGreat

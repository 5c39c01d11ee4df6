/-
  Contracts of the package page, fourth part.
-/
import Derived.Test.YtkdaphkpllgmbaaGreatM19
namespace Go.Proofs.YtkdaphkpllgmbaaGreat
open Go.RowKit Sp
set_option linter.unusedVariables false
attribute [local go_sem] Ent.v Ent.cells
set_option maxRecDepth 100000 in
set_option maxHeartbeats 4000000 in
theorem pageSecond_0 (code low : Int) (w : World) (hh : code / 16 = 0) (hl : Go.bits .and .u8 code 15 = low) (h : 0 ≤ low ∧ low < 16) :
    Calls Tryz.prog 187 #[.int .u8 code] w fun e w' => e = .returned (pageSecond 0 low).v ∧ Below w.heap.size w w' := by
  go_enter Tryz.func187, Tryz.ntmps187
  go_wp2_with (first | (go_at_call 228; refine (pageColumn_any _ _ (by decide)).mono ?_; rintro e w1 ⟨rfl, rfl⟩) | (go_at_call 227; refine (pageWide_any _ _ _ _).mono ?_; rintro e w1 ⟨rfl, rfl⟩))
  first
  | exact bodyPost_ret (by exact results_cell_row rfl _ _ w.heap.size 121 _ (0, 0) _ rfl (heap_alloc_new w _) Tryz.underlying121 rfl (by kernel_rfl)) rfl ⟨rfl, below_alloc (Below.refl _ _) _⟩
  | exact bodyPost_ret (by exact results_cell_row rfl _ _ w.heap.size 121 _ (0, 0) _ rfl (Blk.alloc (heap_alloc_new w _) _) Tryz.underlying121 rfl (by kernel_rfl)) rfl ⟨rfl, below_alloc (below_alloc (Below.refl _ _) _) _⟩
set_option maxRecDepth 100000 in
set_option maxHeartbeats 4000000 in
theorem pageSecond_1 (code low : Int) (w : World) (hh : code / 16 = 1) (hl : Go.bits .and .u8 code 15 = low) (h : 0 ≤ low ∧ low < 16) :
    Calls Tryz.prog 187 #[.int .u8 code] w fun e w' => e = .returned (pageSecond 1 low).v ∧ Below w.heap.size w w' := by
  go_enter Tryz.func187, Tryz.ntmps187
  go_wp2_with (first | (go_at_call 228; refine (pageColumn_any _ _ (by decide)).mono ?_; rintro e w1 ⟨rfl, rfl⟩) | (go_at_call 227; refine (pageWide_any _ _ _ _).mono ?_; rintro e w1 ⟨rfl, rfl⟩))
  first
  | exact bodyPost_ret (by exact results_cell_row rfl _ _ w.heap.size 121 _ (0, 0) _ rfl (heap_alloc_new w _) Tryz.underlying121 rfl (by kernel_rfl)) rfl ⟨rfl, below_alloc (Below.refl _ _) _⟩
  | exact bodyPost_ret (by exact results_cell_row rfl _ _ w.heap.size 121 _ (0, 0) _ rfl (Blk.alloc (heap_alloc_new w _) _) Tryz.underlying121 rfl (by kernel_rfl)) rfl ⟨rfl, below_alloc (below_alloc (Below.refl _ _) _) _⟩
set_option maxRecDepth 100000 in
set_option maxHeartbeats 4000000 in
theorem pageSecond_2 (code low : Int) (w : World) (hh : code / 16 = 2) (hl : Go.bits .and .u8 code 15 = low) (h : 0 ≤ low ∧ low < 16) :
    Calls Tryz.prog 187 #[.int .u8 code] w fun e w' => e = .returned (pageSecond 2 low).v ∧ Below w.heap.size w w' := by
  rcases nib low h with rfl | rfl | rfl | rfl | rfl | rfl | rfl | rfl | rfl | rfl | rfl | rfl | rfl | rfl | rfl | rfl <;>
  as_aux_lemma =>
    clear h
    go_enter Tryz.func187, Tryz.ntmps187
    go_wp2_with (first | (go_at_call 228; refine (pageColumn_any _ _ (by decide)).mono ?_; rintro e w1 ⟨rfl, rfl⟩) | (go_at_call 227; refine (pageWide_any _ _ _ _).mono ?_; rintro e w1 ⟨rfl, rfl⟩))
    first
    | exact bodyPost_ret (by exact results_cell_row rfl _ _ w.heap.size 121 _ (0, 0) _ rfl (heap_alloc_new w _) Tryz.underlying121 rfl (by kernel_rfl)) rfl ⟨rfl, below_alloc (Below.refl _ _) _⟩
    | exact bodyPost_ret (by exact results_cell_row rfl _ _ w.heap.size 121 _ (0, 0) _ rfl (Blk.alloc (heap_alloc_new w _) _) Tryz.underlying121 rfl (by kernel_rfl)) rfl ⟨rfl, below_alloc (below_alloc (Below.refl _ _) _) _⟩
set_option maxRecDepth 100000 in
set_option maxHeartbeats 4000000 in
theorem pageSecond_3 (code low : Int) (w : World) (hh : code / 16 = 3) (hl : Go.bits .and .u8 code 15 = low) (h : 0 ≤ low ∧ low < 16) :
    Calls Tryz.prog 187 #[.int .u8 code] w fun e w' => e = .returned (pageSecond 3 low).v ∧ Below w.heap.size w w' := by
  go_enter Tryz.func187, Tryz.ntmps187
  go_wp2_with (first | (go_at_call 228; refine (pageColumn_any _ _ (by decide)).mono ?_; rintro e w1 ⟨rfl, rfl⟩) | (go_at_call 227; refine (pageWide_any _ _ _ _).mono ?_; rintro e w1 ⟨rfl, rfl⟩))
  first
  | exact bodyPost_ret (by exact results_cell_row rfl _ _ w.heap.size 121 _ (0, 0) _ rfl (heap_alloc_new w _) Tryz.underlying121 rfl (by kernel_rfl)) rfl ⟨rfl, below_alloc (Below.refl _ _) _⟩
  | exact bodyPost_ret (by exact results_cell_row rfl _ _ w.heap.size 121 _ (0, 0) _ rfl (Blk.alloc (heap_alloc_new w _) _) Tryz.underlying121 rfl (by kernel_rfl)) rfl ⟨rfl, below_alloc (below_alloc (Below.refl _ _) _) _⟩
set_option maxRecDepth 100000 in
set_option maxHeartbeats 4000000 in
theorem pageSecond_4 (code low : Int) (w : World) (hh : code / 16 = 4) (hl : Go.bits .and .u8 code 15 = low) (h : 0 ≤ low ∧ low < 16) :
    Calls Tryz.prog 187 #[.int .u8 code] w fun e w' => e = .returned (pageSecond 4 low).v ∧ Below w.heap.size w w' := by
  go_enter Tryz.func187, Tryz.ntmps187
  go_wp2_with (first | (go_at_call 228; refine (pageColumn_any _ _ (by decide)).mono ?_; rintro e w1 ⟨rfl, rfl⟩) | (go_at_call 227; refine (pageWide_any _ _ _ _).mono ?_; rintro e w1 ⟨rfl, rfl⟩))
  first
  | exact bodyPost_ret (by exact results_cell_row rfl _ _ w.heap.size 121 _ (0, 0) _ rfl (heap_alloc_new w _) Tryz.underlying121 rfl (by kernel_rfl)) rfl ⟨rfl, below_alloc (Below.refl _ _) _⟩
  | exact bodyPost_ret (by exact results_cell_row rfl _ _ w.heap.size 121 _ (0, 0) _ rfl (Blk.alloc (heap_alloc_new w _) _) Tryz.underlying121 rfl (by kernel_rfl)) rfl ⟨rfl, below_alloc (below_alloc (Below.refl _ _) _) _⟩
set_option maxRecDepth 100000 in
set_option maxHeartbeats 4000000 in
theorem pageSecond_5 (code low : Int) (w : World) (hh : code / 16 = 5) (hl : Go.bits .and .u8 code 15 = low) (h : 0 ≤ low ∧ low < 16) :
    Calls Tryz.prog 187 #[.int .u8 code] w fun e w' => e = .returned (pageSecond 5 low).v ∧ Below w.heap.size w w' := by
  go_enter Tryz.func187, Tryz.ntmps187
  go_wp2_with (first | (go_at_call 228; refine (pageColumn_any _ _ (by decide)).mono ?_; rintro e w1 ⟨rfl, rfl⟩) | (go_at_call 227; refine (pageWide_any _ _ _ _).mono ?_; rintro e w1 ⟨rfl, rfl⟩))
  first
  | exact bodyPost_ret (by exact results_cell_row rfl _ _ w.heap.size 121 _ (0, 0) _ rfl (heap_alloc_new w _) Tryz.underlying121 rfl (by kernel_rfl)) rfl ⟨rfl, below_alloc (Below.refl _ _) _⟩
  | exact bodyPost_ret (by exact results_cell_row rfl _ _ w.heap.size 121 _ (0, 0) _ rfl (Blk.alloc (heap_alloc_new w _) _) Tryz.underlying121 rfl (by kernel_rfl)) rfl ⟨rfl, below_alloc (below_alloc (Below.refl _ _) _) _⟩
set_option maxRecDepth 100000 in
set_option maxHeartbeats 4000000 in
theorem pageSecond_6 (code low : Int) (w : World) (hh : code / 16 = 6) (hl : Go.bits .and .u8 code 15 = low) (h : 0 ≤ low ∧ low < 16) :
    Calls Tryz.prog 187 #[.int .u8 code] w fun e w' => e = .returned (pageSecond 6 low).v ∧ Below w.heap.size w w' := by
  go_enter Tryz.func187, Tryz.ntmps187
  go_wp2_with (first | (go_at_call 228; refine (pageColumn_any _ _ (by decide)).mono ?_; rintro e w1 ⟨rfl, rfl⟩) | (go_at_call 227; refine (pageWide_any _ _ _ _).mono ?_; rintro e w1 ⟨rfl, rfl⟩))
  first
  | exact bodyPost_ret (by exact results_cell_row rfl _ _ w.heap.size 121 _ (0, 0) _ rfl (heap_alloc_new w _) Tryz.underlying121 rfl (by kernel_rfl)) rfl ⟨rfl, below_alloc (Below.refl _ _) _⟩
  | exact bodyPost_ret (by exact results_cell_row rfl _ _ w.heap.size 121 _ (0, 0) _ rfl (Blk.alloc (heap_alloc_new w _) _) Tryz.underlying121 rfl (by kernel_rfl)) rfl ⟨rfl, below_alloc (below_alloc (Below.refl _ _) _) _⟩
set_option maxRecDepth 100000 in
set_option maxHeartbeats 4000000 in
theorem pageSecond_7 (code low : Int) (w : World) (hh : code / 16 = 7) (hl : Go.bits .and .u8 code 15 = low) (h : 0 ≤ low ∧ low < 16) :
    Calls Tryz.prog 187 #[.int .u8 code] w fun e w' => e = .returned (pageSecond 7 low).v ∧ Below w.heap.size w w' := by
  go_enter Tryz.func187, Tryz.ntmps187
  go_wp2_with (first | (go_at_call 228; refine (pageColumn_any _ _ (by decide)).mono ?_; rintro e w1 ⟨rfl, rfl⟩) | (go_at_call 227; refine (pageWide_any _ _ _ _).mono ?_; rintro e w1 ⟨rfl, rfl⟩))
  first
  | exact bodyPost_ret (by exact results_cell_row rfl _ _ w.heap.size 121 _ (0, 0) _ rfl (heap_alloc_new w _) Tryz.underlying121 rfl (by kernel_rfl)) rfl ⟨rfl, below_alloc (Below.refl _ _) _⟩
  | exact bodyPost_ret (by exact results_cell_row rfl _ _ w.heap.size 121 _ (0, 0) _ rfl (Blk.alloc (heap_alloc_new w _) _) Tryz.underlying121 rfl (by kernel_rfl)) rfl ⟨rfl, below_alloc (below_alloc (Below.refl _ _) _) _⟩
set_option maxRecDepth 100000 in
set_option maxHeartbeats 4000000 in
theorem pageSecond_8 (code low : Int) (w : World) (hh : code / 16 = 8) (hl : Go.bits .and .u8 code 15 = low) (h : 0 ≤ low ∧ low < 16) :
    Calls Tryz.prog 187 #[.int .u8 code] w fun e w' => e = .returned (pageSecond 8 low).v ∧ Below w.heap.size w w' := by
  rcases nib low h with rfl | rfl | rfl | rfl | rfl | rfl | rfl | rfl | rfl | rfl | rfl | rfl | rfl | rfl | rfl | rfl <;>
  as_aux_lemma =>
    clear h
    go_enter Tryz.func187, Tryz.ntmps187
    go_wp2_with (first | (go_at_call 228; refine (pageColumn_any _ _ (by decide)).mono ?_; rintro e w1 ⟨rfl, rfl⟩) | (go_at_call 227; refine (pageWide_any _ _ _ _).mono ?_; rintro e w1 ⟨rfl, rfl⟩))
    first
    | exact bodyPost_ret (by exact results_cell_row rfl _ _ w.heap.size 121 _ (0, 0) _ rfl (heap_alloc_new w _) Tryz.underlying121 rfl (by kernel_rfl)) rfl ⟨rfl, below_alloc (Below.refl _ _) _⟩
    | exact bodyPost_ret (by exact results_cell_row rfl _ _ w.heap.size 121 _ (0, 0) _ rfl (Blk.alloc (heap_alloc_new w _) _) Tryz.underlying121 rfl (by kernel_rfl)) rfl ⟨rfl, below_alloc (below_alloc (Below.refl _ _) _) _⟩
set_option maxRecDepth 100000 in
set_option maxHeartbeats 4000000 in
theorem pageSecond_9 (code low : Int) (w : World) (hh : code / 16 = 9) (hl : Go.bits .and .u8 code 15 = low) (h : 0 ≤ low ∧ low < 16) :
    Calls Tryz.prog 187 #[.int .u8 code] w fun e w' => e = .returned (pageSecond 9 low).v ∧ Below w.heap.size w w' := by
  rcases nib low h with rfl | rfl | rfl | rfl | rfl | rfl | rfl | rfl | rfl | rfl | rfl | rfl | rfl | rfl | rfl | rfl <;>
  as_aux_lemma =>
    clear h
    go_enter Tryz.func187, Tryz.ntmps187
    go_wp2_with (first | (go_at_call 228; refine (pageColumn_any _ _ (by decide)).mono ?_; rintro e w1 ⟨rfl, rfl⟩) | (go_at_call 227; refine (pageWide_any _ _ _ _).mono ?_; rintro e w1 ⟨rfl, rfl⟩))
    first
    | exact bodyPost_ret (by exact results_cell_row rfl _ _ w.heap.size 121 _ (0, 0) _ rfl (heap_alloc_new w _) Tryz.underlying121 rfl (by kernel_rfl)) rfl ⟨rfl, below_alloc (Below.refl _ _) _⟩
    | exact bodyPost_ret (by exact results_cell_row rfl _ _ w.heap.size 121 _ (0, 0) _ rfl (Blk.alloc (heap_alloc_new w _) _) Tryz.underlying121 rfl (by kernel_rfl)) rfl ⟨rfl, below_alloc (below_alloc (Below.refl _ _) _) _⟩
set_option maxRecDepth 100000 in
set_option maxHeartbeats 4000000 in
theorem pageSecond_10 (code low : Int) (w : World) (hh : code / 16 = 10) (hl : Go.bits .and .u8 code 15 = low) (h : 0 ≤ low ∧ low < 16) :
    Calls Tryz.prog 187 #[.int .u8 code] w fun e w' => e = .returned (pageSecond 10 low).v ∧ Below w.heap.size w w' := by
  rcases nib low h with rfl | rfl | rfl | rfl | rfl | rfl | rfl | rfl | rfl | rfl | rfl | rfl | rfl | rfl | rfl | rfl <;>
  as_aux_lemma =>
    clear h
    go_enter Tryz.func187, Tryz.ntmps187
    go_wp2_with (first | (go_at_call 228; refine (pageColumn_any _ _ (by decide)).mono ?_; rintro e w1 ⟨rfl, rfl⟩) | (go_at_call 227; refine (pageWide_any _ _ _ _).mono ?_; rintro e w1 ⟨rfl, rfl⟩))
    first
    | exact bodyPost_ret (by exact results_cell_row rfl _ _ w.heap.size 121 _ (0, 0) _ rfl (heap_alloc_new w _) Tryz.underlying121 rfl (by kernel_rfl)) rfl ⟨rfl, below_alloc (Below.refl _ _) _⟩
    | exact bodyPost_ret (by exact results_cell_row rfl _ _ w.heap.size 121 _ (0, 0) _ rfl (Blk.alloc (heap_alloc_new w _) _) Tryz.underlying121 rfl (by kernel_rfl)) rfl ⟨rfl, below_alloc (below_alloc (Below.refl _ _) _) _⟩
set_option maxRecDepth 100000 in
set_option maxHeartbeats 4000000 in
theorem pageSecond_11 (code low : Int) (w : World) (hh : code / 16 = 11) (hl : Go.bits .and .u8 code 15 = low) (h : 0 ≤ low ∧ low < 16) :
    Calls Tryz.prog 187 #[.int .u8 code] w fun e w' => e = .returned (pageSecond 11 low).v ∧ Below w.heap.size w w' := by
  rcases nib low h with rfl | rfl | rfl | rfl | rfl | rfl | rfl | rfl | rfl | rfl | rfl | rfl | rfl | rfl | rfl | rfl <;>
  as_aux_lemma =>
    clear h
    go_enter Tryz.func187, Tryz.ntmps187
    go_wp2_with (first | (go_at_call 228; refine (pageColumn_any _ _ (by decide)).mono ?_; rintro e w1 ⟨rfl, rfl⟩) | (go_at_call 227; refine (pageWide_any _ _ _ _).mono ?_; rintro e w1 ⟨rfl, rfl⟩))
    first
    | exact bodyPost_ret (by exact results_cell_row rfl _ _ w.heap.size 121 _ (0, 0) _ rfl (heap_alloc_new w _) Tryz.underlying121 rfl (by kernel_rfl)) rfl ⟨rfl, below_alloc (Below.refl _ _) _⟩
    | exact bodyPost_ret (by exact results_cell_row rfl _ _ w.heap.size 121 _ (0, 0) _ rfl (Blk.alloc (heap_alloc_new w _) _) Tryz.underlying121 rfl (by kernel_rfl)) rfl ⟨rfl, below_alloc (below_alloc (Below.refl _ _) _) _⟩
set_option maxRecDepth 100000 in
set_option maxHeartbeats 4000000 in
theorem pageSecond_12 (code low : Int) (w : World) (hh : code / 16 = 12) (hl : Go.bits .and .u8 code 15 = low) (h : 0 ≤ low ∧ low < 16) :
    Calls Tryz.prog 187 #[.int .u8 code] w fun e w' => e = .returned (pageSecond 12 low).v ∧ Below w.heap.size w w' := by
  rcases nib low h with rfl | rfl | rfl | rfl | rfl | rfl | rfl | rfl | rfl | rfl | rfl | rfl | rfl | rfl | rfl | rfl <;>
  as_aux_lemma =>
    clear h
    go_enter Tryz.func187, Tryz.ntmps187
    go_wp2_with (first | (go_at_call 228; refine (pageColumn_any _ _ (by decide)).mono ?_; rintro e w1 ⟨rfl, rfl⟩) | (go_at_call 227; refine (pageWide_any _ _ _ _).mono ?_; rintro e w1 ⟨rfl, rfl⟩))
    first
    | exact bodyPost_ret (by exact results_cell_row rfl _ _ w.heap.size 121 _ (0, 0) _ rfl (heap_alloc_new w _) Tryz.underlying121 rfl (by kernel_rfl)) rfl ⟨rfl, below_alloc (Below.refl _ _) _⟩
    | exact bodyPost_ret (by exact results_cell_row rfl _ _ w.heap.size 121 _ (0, 0) _ rfl (Blk.alloc (heap_alloc_new w _) _) Tryz.underlying121 rfl (by kernel_rfl)) rfl ⟨rfl, below_alloc (below_alloc (Below.refl _ _) _) _⟩
set_option maxRecDepth 100000 in
set_option maxHeartbeats 4000000 in
theorem pageSecond_13 (code low : Int) (w : World) (hh : code / 16 = 13) (hl : Go.bits .and .u8 code 15 = low) (h : 0 ≤ low ∧ low < 16) :
    Calls Tryz.prog 187 #[.int .u8 code] w fun e w' => e = .returned (pageSecond 13 low).v ∧ Below w.heap.size w w' := by
  rcases nib low h with rfl | rfl | rfl | rfl | rfl | rfl | rfl | rfl | rfl | rfl | rfl | rfl | rfl | rfl | rfl | rfl <;>
  as_aux_lemma =>
    clear h
    go_enter Tryz.func187, Tryz.ntmps187
    go_wp2_with (first | (go_at_call 228; refine (pageColumn_any _ _ (by decide)).mono ?_; rintro e w1 ⟨rfl, rfl⟩) | (go_at_call 227; refine (pageWide_any _ _ _ _).mono ?_; rintro e w1 ⟨rfl, rfl⟩))
    first
    | exact bodyPost_ret (by exact results_cell_row rfl _ _ w.heap.size 121 _ (0, 0) _ rfl (heap_alloc_new w _) Tryz.underlying121 rfl (by kernel_rfl)) rfl ⟨rfl, below_alloc (Below.refl _ _) _⟩
    | exact bodyPost_ret (by exact results_cell_row rfl _ _ w.heap.size 121 _ (0, 0) _ rfl (Blk.alloc (heap_alloc_new w _) _) Tryz.underlying121 rfl (by kernel_rfl)) rfl ⟨rfl, below_alloc (below_alloc (Below.refl _ _) _) _⟩
set_option maxRecDepth 100000 in
set_option maxHeartbeats 4000000 in
theorem pageSecond_14 (code low : Int) (w : World) (hh : code / 16 = 14) (hl : Go.bits .and .u8 code 15 = low) (h : 0 ≤ low ∧ low < 16) :
    Calls Tryz.prog 187 #[.int .u8 code] w fun e w' => e = .returned (pageSecond 14 low).v ∧ Below w.heap.size w w' := by
  rcases nib low h with rfl | rfl | rfl | rfl | rfl | rfl | rfl | rfl | rfl | rfl | rfl | rfl | rfl | rfl | rfl | rfl <;>
  as_aux_lemma =>
    clear h
    go_enter Tryz.func187, Tryz.ntmps187
    go_wp2_with (first | (go_at_call 228; refine (pageColumn_any _ _ (by decide)).mono ?_; rintro e w1 ⟨rfl, rfl⟩) | (go_at_call 227; refine (pageWide_any _ _ _ _).mono ?_; rintro e w1 ⟨rfl, rfl⟩))
    first
    | exact bodyPost_ret (by exact results_cell_row rfl _ _ w.heap.size 121 _ (0, 0) _ rfl (heap_alloc_new w _) Tryz.underlying121 rfl (by kernel_rfl)) rfl ⟨rfl, below_alloc (Below.refl _ _) _⟩
    | exact bodyPost_ret (by exact results_cell_row rfl _ _ w.heap.size 121 _ (0, 0) _ rfl (Blk.alloc (heap_alloc_new w _) _) Tryz.underlying121 rfl (by kernel_rfl)) rfl ⟨rfl, below_alloc (below_alloc (Below.refl _ _) _) _⟩
set_option maxRecDepth 100000 in
set_option maxHeartbeats 4000000 in
theorem pageSecond_15 (code low : Int) (w : World) (hh : code / 16 = 15) (hl : Go.bits .and .u8 code 15 = low) (h : 0 ≤ low ∧ low < 16) :
    Calls Tryz.prog 187 #[.int .u8 code] w fun e w' => e = .returned (pageSecond 15 low).v ∧ Below w.heap.size w w' := by
  rcases nib low h with rfl | rfl | rfl | rfl | rfl | rfl | rfl | rfl | rfl | rfl | rfl | rfl | rfl | rfl | rfl | rfl <;>
  as_aux_lemma =>
    clear h
    go_enter Tryz.func187, Tryz.ntmps187
    go_wp2_with (first | (go_at_call 228; refine (pageColumn_any _ _ (by decide)).mono ?_; rintro e w1 ⟨rfl, rfl⟩) | (go_at_call 227; refine (pageWide_any _ _ _ _).mono ?_; rintro e w1 ⟨rfl, rfl⟩))
    first
    | exact bodyPost_ret (by exact results_cell_row rfl _ _ w.heap.size 121 _ (0, 0) _ rfl (heap_alloc_new w _) Tryz.underlying121 rfl (by kernel_rfl)) rfl ⟨rfl, below_alloc (Below.refl _ _) _⟩
    | exact bodyPost_ret (by exact results_cell_row rfl _ _ w.heap.size 121 _ (0, 0) _ rfl (Blk.alloc (heap_alloc_new w _) _) Tryz.underlying121 rfl (by kernel_rfl)) rfl ⟨rfl, below_alloc (below_alloc (Below.refl _ _) _) _⟩
set_option maxRecDepth 100000 in
set_option maxHeartbeats 4000000 in
theorem pageThird_0 (code low : Int) (w : World) (hh : code / 16 = 0) (hl : Go.bits .and .u8 code 15 = low) (h : 0 ≤ low ∧ low < 16) :
    Calls Tryz.prog 188 #[.int .u8 code] w fun e w' => e = .returned (pageThird 0 low).v ∧ Below w.heap.size w w' := by
  go_enter Tryz.func188, Tryz.ntmps188
  go_wp2_with (first | (go_at_call 228; refine (pageColumn_any _ _ (by decide)).mono ?_; rintro e w1 ⟨rfl, rfl⟩) | (go_at_call 227; refine (pageWide_any _ _ _ _).mono ?_; rintro e w1 ⟨rfl, rfl⟩))
  first
  | exact bodyPost_ret (by exact results_cell_row rfl _ _ w.heap.size 121 _ (0, 0) _ rfl (heap_alloc_new w _) Tryz.underlying121 rfl (by kernel_rfl)) rfl ⟨rfl, below_alloc (Below.refl _ _) _⟩
  | exact bodyPost_ret (by exact results_cell_row rfl _ _ w.heap.size 121 _ (0, 0) _ rfl (Blk.alloc (heap_alloc_new w _) _) Tryz.underlying121 rfl (by kernel_rfl)) rfl ⟨rfl, below_alloc (below_alloc (Below.refl _ _) _) _⟩
set_option maxRecDepth 100000 in
set_option maxHeartbeats 4000000 in
theorem pageThird_1 (code low : Int) (w : World) (hh : code / 16 = 1) (hl : Go.bits .and .u8 code 15 = low) (h : 0 ≤ low ∧ low < 16) :
    Calls Tryz.prog 188 #[.int .u8 code] w fun e w' => e = .returned (pageThird 1 low).v ∧ Below w.heap.size w w' := by
  go_enter Tryz.func188, Tryz.ntmps188
  go_wp2_with (first | (go_at_call 228; refine (pageColumn_any _ _ (by decide)).mono ?_; rintro e w1 ⟨rfl, rfl⟩) | (go_at_call 227; refine (pageWide_any _ _ _ _).mono ?_; rintro e w1 ⟨rfl, rfl⟩))
  first
  | exact bodyPost_ret (by exact results_cell_row rfl _ _ w.heap.size 121 _ (0, 0) _ rfl (heap_alloc_new w _) Tryz.underlying121 rfl (by kernel_rfl)) rfl ⟨rfl, below_alloc (Below.refl _ _) _⟩
  | exact bodyPost_ret (by exact results_cell_row rfl _ _ w.heap.size 121 _ (0, 0) _ rfl (Blk.alloc (heap_alloc_new w _) _) Tryz.underlying121 rfl (by kernel_rfl)) rfl ⟨rfl, below_alloc (below_alloc (Below.refl _ _) _) _⟩
set_option maxRecDepth 100000 in
set_option maxHeartbeats 4000000 in
theorem pageThird_2 (code low : Int) (w : World) (hh : code / 16 = 2) (hl : Go.bits .and .u8 code 15 = low) (h : 0 ≤ low ∧ low < 16) :
    Calls Tryz.prog 188 #[.int .u8 code] w fun e w' => e = .returned (pageThird 2 low).v ∧ Below w.heap.size w w' := by
  go_enter Tryz.func188, Tryz.ntmps188
  go_wp2_with (first | (go_at_call 228; refine (pageColumn_any _ _ (by decide)).mono ?_; rintro e w1 ⟨rfl, rfl⟩) | (go_at_call 227; refine (pageWide_any _ _ _ _).mono ?_; rintro e w1 ⟨rfl, rfl⟩))
  first
  | exact bodyPost_ret (by exact results_cell_row rfl _ _ w.heap.size 121 _ (0, 0) _ rfl (heap_alloc_new w _) Tryz.underlying121 rfl (by kernel_rfl)) rfl ⟨rfl, below_alloc (Below.refl _ _) _⟩
  | exact bodyPost_ret (by exact results_cell_row rfl _ _ w.heap.size 121 _ (0, 0) _ rfl (Blk.alloc (heap_alloc_new w _) _) Tryz.underlying121 rfl (by kernel_rfl)) rfl ⟨rfl, below_alloc (below_alloc (Below.refl _ _) _) _⟩
set_option maxRecDepth 100000 in
set_option maxHeartbeats 4000000 in
theorem pageThird_3 (code low : Int) (w : World) (hh : code / 16 = 3) (hl : Go.bits .and .u8 code 15 = low) (h : 0 ≤ low ∧ low < 16) :
    Calls Tryz.prog 188 #[.int .u8 code] w fun e w' => e = .returned (pageThird 3 low).v ∧ Below w.heap.size w w' := by
  go_enter Tryz.func188, Tryz.ntmps188
  go_wp2_with (first | (go_at_call 228; refine (pageColumn_any _ _ (by decide)).mono ?_; rintro e w1 ⟨rfl, rfl⟩) | (go_at_call 227; refine (pageWide_any _ _ _ _).mono ?_; rintro e w1 ⟨rfl, rfl⟩))
  first
  | exact bodyPost_ret (by exact results_cell_row rfl _ _ w.heap.size 121 _ (0, 0) _ rfl (heap_alloc_new w _) Tryz.underlying121 rfl (by kernel_rfl)) rfl ⟨rfl, below_alloc (Below.refl _ _) _⟩
  | exact bodyPost_ret (by exact results_cell_row rfl _ _ w.heap.size 121 _ (0, 0) _ rfl (Blk.alloc (heap_alloc_new w _) _) Tryz.underlying121 rfl (by kernel_rfl)) rfl ⟨rfl, below_alloc (below_alloc (Below.refl _ _) _) _⟩
set_option maxRecDepth 100000 in
set_option maxHeartbeats 4000000 in
theorem pageThird_4 (code low : Int) (w : World) (hh : code / 16 = 4) (hl : Go.bits .and .u8 code 15 = low) (h : 0 ≤ low ∧ low < 16) :
    Calls Tryz.prog 188 #[.int .u8 code] w fun e w' => e = .returned (pageThird 4 low).v ∧ Below w.heap.size w w' := by
  go_enter Tryz.func188, Tryz.ntmps188
  go_wp2_with (first | (go_at_call 228; refine (pageColumn_any _ _ (by decide)).mono ?_; rintro e w1 ⟨rfl, rfl⟩) | (go_at_call 227; refine (pageWide_any _ _ _ _).mono ?_; rintro e w1 ⟨rfl, rfl⟩))
  first
  | exact bodyPost_ret (by exact results_cell_row rfl _ _ w.heap.size 121 _ (0, 0) _ rfl (heap_alloc_new w _) Tryz.underlying121 rfl (by kernel_rfl)) rfl ⟨rfl, below_alloc (Below.refl _ _) _⟩
  | exact bodyPost_ret (by exact results_cell_row rfl _ _ w.heap.size 121 _ (0, 0) _ rfl (Blk.alloc (heap_alloc_new w _) _) Tryz.underlying121 rfl (by kernel_rfl)) rfl ⟨rfl, below_alloc (below_alloc (Below.refl _ _) _) _⟩
set_option maxRecDepth 100000 in
set_option maxHeartbeats 4000000 in
theorem pageThird_5 (code low : Int) (w : World) (hh : code / 16 = 5) (hl : Go.bits .and .u8 code 15 = low) (h : 0 ≤ low ∧ low < 16) :
    Calls Tryz.prog 188 #[.int .u8 code] w fun e w' => e = .returned (pageThird 5 low).v ∧ Below w.heap.size w w' := by
  go_enter Tryz.func188, Tryz.ntmps188
  go_wp2_with (first | (go_at_call 228; refine (pageColumn_any _ _ (by decide)).mono ?_; rintro e w1 ⟨rfl, rfl⟩) | (go_at_call 227; refine (pageWide_any _ _ _ _).mono ?_; rintro e w1 ⟨rfl, rfl⟩))
  first
  | exact bodyPost_ret (by exact results_cell_row rfl _ _ w.heap.size 121 _ (0, 0) _ rfl (heap_alloc_new w _) Tryz.underlying121 rfl (by kernel_rfl)) rfl ⟨rfl, below_alloc (Below.refl _ _) _⟩
  | exact bodyPost_ret (by exact results_cell_row rfl _ _ w.heap.size 121 _ (0, 0) _ rfl (Blk.alloc (heap_alloc_new w _) _) Tryz.underlying121 rfl (by kernel_rfl)) rfl ⟨rfl, below_alloc (below_alloc (Below.refl _ _) _) _⟩
set_option maxRecDepth 100000 in
set_option maxHeartbeats 4000000 in
theorem pageThird_6 (code low : Int) (w : World) (hh : code / 16 = 6) (hl : Go.bits .and .u8 code 15 = low) (h : 0 ≤ low ∧ low < 16) :
    Calls Tryz.prog 188 #[.int .u8 code] w fun e w' => e = .returned (pageThird 6 low).v ∧ Below w.heap.size w w' := by
  go_enter Tryz.func188, Tryz.ntmps188
  go_wp2_with (first | (go_at_call 228; refine (pageColumn_any _ _ (by decide)).mono ?_; rintro e w1 ⟨rfl, rfl⟩) | (go_at_call 227; refine (pageWide_any _ _ _ _).mono ?_; rintro e w1 ⟨rfl, rfl⟩))
  first
  | exact bodyPost_ret (by exact results_cell_row rfl _ _ w.heap.size 121 _ (0, 0) _ rfl (heap_alloc_new w _) Tryz.underlying121 rfl (by kernel_rfl)) rfl ⟨rfl, below_alloc (Below.refl _ _) _⟩
  | exact bodyPost_ret (by exact results_cell_row rfl _ _ w.heap.size 121 _ (0, 0) _ rfl (Blk.alloc (heap_alloc_new w _) _) Tryz.underlying121 rfl (by kernel_rfl)) rfl ⟨rfl, below_alloc (below_alloc (Below.refl _ _) _) _⟩
set_option maxRecDepth 100000 in
set_option maxHeartbeats 4000000 in
theorem pageThird_7 (code low : Int) (w : World) (hh : code / 16 = 7) (hl : Go.bits .and .u8 code 15 = low) (h : 0 ≤ low ∧ low < 16) :
    Calls Tryz.prog 188 #[.int .u8 code] w fun e w' => e = .returned (pageThird 7 low).v ∧ Below w.heap.size w w' := by
  go_enter Tryz.func188, Tryz.ntmps188
  go_wp2_with (first | (go_at_call 228; refine (pageColumn_any _ _ (by decide)).mono ?_; rintro e w1 ⟨rfl, rfl⟩) | (go_at_call 227; refine (pageWide_any _ _ _ _).mono ?_; rintro e w1 ⟨rfl, rfl⟩))
  first
  | exact bodyPost_ret (by exact results_cell_row rfl _ _ w.heap.size 121 _ (0, 0) _ rfl (heap_alloc_new w _) Tryz.underlying121 rfl (by kernel_rfl)) rfl ⟨rfl, below_alloc (Below.refl _ _) _⟩
  | exact bodyPost_ret (by exact results_cell_row rfl _ _ w.heap.size 121 _ (0, 0) _ rfl (Blk.alloc (heap_alloc_new w _) _) Tryz.underlying121 rfl (by kernel_rfl)) rfl ⟨rfl, below_alloc (below_alloc (Below.refl _ _) _) _⟩
set_option maxRecDepth 100000 in
set_option maxHeartbeats 4000000 in
theorem pageThird_8 (code low : Int) (w : World) (hh : code / 16 = 8) (hl : Go.bits .and .u8 code 15 = low) (h : 0 ≤ low ∧ low < 16) :
    Calls Tryz.prog 188 #[.int .u8 code] w fun e w' => e = .returned (pageThird 8 low).v ∧ Below w.heap.size w w' := by
  rcases nib low h with rfl | rfl | rfl | rfl | rfl | rfl | rfl | rfl | rfl | rfl | rfl | rfl | rfl | rfl | rfl | rfl <;>
  as_aux_lemma =>
    clear h
    go_enter Tryz.func188, Tryz.ntmps188
    go_wp2_with (first | (go_at_call 228; refine (pageColumn_any _ _ (by decide)).mono ?_; rintro e w1 ⟨rfl, rfl⟩) | (go_at_call 227; refine (pageWide_any _ _ _ _).mono ?_; rintro e w1 ⟨rfl, rfl⟩))
    first
    | exact bodyPost_ret (by exact results_cell_row rfl _ _ w.heap.size 121 _ (0, 0) _ rfl (heap_alloc_new w _) Tryz.underlying121 rfl (by kernel_rfl)) rfl ⟨rfl, below_alloc (Below.refl _ _) _⟩
    | exact bodyPost_ret (by exact results_cell_row rfl _ _ w.heap.size 121 _ (0, 0) _ rfl (Blk.alloc (heap_alloc_new w _) _) Tryz.underlying121 rfl (by kernel_rfl)) rfl ⟨rfl, below_alloc (below_alloc (Below.refl _ _) _) _⟩
set_option maxRecDepth 100000 in
set_option maxHeartbeats 4000000 in
theorem pageThird_9 (code low : Int) (w : World) (hh : code / 16 = 9) (hl : Go.bits .and .u8 code 15 = low) (h : 0 ≤ low ∧ low < 16) :
    Calls Tryz.prog 188 #[.int .u8 code] w fun e w' => e = .returned (pageThird 9 low).v ∧ Below w.heap.size w w' := by
  rcases nib low h with rfl | rfl | rfl | rfl | rfl | rfl | rfl | rfl | rfl | rfl | rfl | rfl | rfl | rfl | rfl | rfl <;>
  as_aux_lemma =>
    clear h
    go_enter Tryz.func188, Tryz.ntmps188
    go_wp2_with (first | (go_at_call 228; refine (pageColumn_any _ _ (by decide)).mono ?_; rintro e w1 ⟨rfl, rfl⟩) | (go_at_call 227; refine (pageWide_any _ _ _ _).mono ?_; rintro e w1 ⟨rfl, rfl⟩))
    first
    | exact bodyPost_ret (by exact results_cell_row rfl _ _ w.heap.size 121 _ (0, 0) _ rfl (heap_alloc_new w _) Tryz.underlying121 rfl (by kernel_rfl)) rfl ⟨rfl, below_alloc (Below.refl _ _) _⟩
    | exact bodyPost_ret (by exact results_cell_row rfl _ _ w.heap.size 121 _ (0, 0) _ rfl (Blk.alloc (heap_alloc_new w _) _) Tryz.underlying121 rfl (by kernel_rfl)) rfl ⟨rfl, below_alloc (below_alloc (Below.refl _ _) _) _⟩
set_option maxRecDepth 100000 in
set_option maxHeartbeats 4000000 in
theorem pageThird_10 (code low : Int) (w : World) (hh : code / 16 = 10) (hl : Go.bits .and .u8 code 15 = low) (h : 0 ≤ low ∧ low < 16) :
    Calls Tryz.prog 188 #[.int .u8 code] w fun e w' => e = .returned (pageThird 10 low).v ∧ Below w.heap.size w w' := by
  rcases nib low h with rfl | rfl | rfl | rfl | rfl | rfl | rfl | rfl | rfl | rfl | rfl | rfl | rfl | rfl | rfl | rfl <;>
  as_aux_lemma =>
    clear h
    go_enter Tryz.func188, Tryz.ntmps188
    go_wp2_with (first | (go_at_call 228; refine (pageColumn_any _ _ (by decide)).mono ?_; rintro e w1 ⟨rfl, rfl⟩) | (go_at_call 227; refine (pageWide_any _ _ _ _).mono ?_; rintro e w1 ⟨rfl, rfl⟩))
    first
    | exact bodyPost_ret (by exact results_cell_row rfl _ _ w.heap.size 121 _ (0, 0) _ rfl (heap_alloc_new w _) Tryz.underlying121 rfl (by kernel_rfl)) rfl ⟨rfl, below_alloc (Below.refl _ _) _⟩
    | exact bodyPost_ret (by exact results_cell_row rfl _ _ w.heap.size 121 _ (0, 0) _ rfl (Blk.alloc (heap_alloc_new w _) _) Tryz.underlying121 rfl (by kernel_rfl)) rfl ⟨rfl, below_alloc (below_alloc (Below.refl _ _) _) _⟩
set_option maxRecDepth 100000 in
set_option maxHeartbeats 4000000 in
theorem pageThird_11 (code low : Int) (w : World) (hh : code / 16 = 11) (hl : Go.bits .and .u8 code 15 = low) (h : 0 ≤ low ∧ low < 16) :
    Calls Tryz.prog 188 #[.int .u8 code] w fun e w' => e = .returned (pageThird 11 low).v ∧ Below w.heap.size w w' := by
  rcases nib low h with rfl | rfl | rfl | rfl | rfl | rfl | rfl | rfl | rfl | rfl | rfl | rfl | rfl | rfl | rfl | rfl <;>
  as_aux_lemma =>
    clear h
    go_enter Tryz.func188, Tryz.ntmps188
    go_wp2_with (first | (go_at_call 228; refine (pageColumn_any _ _ (by decide)).mono ?_; rintro e w1 ⟨rfl, rfl⟩) | (go_at_call 227; refine (pageWide_any _ _ _ _).mono ?_; rintro e w1 ⟨rfl, rfl⟩))
    first
    | exact bodyPost_ret (by exact results_cell_row rfl _ _ w.heap.size 121 _ (0, 0) _ rfl (heap_alloc_new w _) Tryz.underlying121 rfl (by kernel_rfl)) rfl ⟨rfl, below_alloc (Below.refl _ _) _⟩
    | exact bodyPost_ret (by exact results_cell_row rfl _ _ w.heap.size 121 _ (0, 0) _ rfl (Blk.alloc (heap_alloc_new w _) _) Tryz.underlying121 rfl (by kernel_rfl)) rfl ⟨rfl, below_alloc (below_alloc (Below.refl _ _) _) _⟩
set_option maxRecDepth 100000 in
set_option maxHeartbeats 4000000 in
theorem pageThird_12 (code low : Int) (w : World) (hh : code / 16 = 12) (hl : Go.bits .and .u8 code 15 = low) (h : 0 ≤ low ∧ low < 16) :
    Calls Tryz.prog 188 #[.int .u8 code] w fun e w' => e = .returned (pageThird 12 low).v ∧ Below w.heap.size w w' := by
  go_enter Tryz.func188, Tryz.ntmps188
  go_wp2_with (first | (go_at_call 228; refine (pageColumn_any _ _ (by decide)).mono ?_; rintro e w1 ⟨rfl, rfl⟩) | (go_at_call 227; refine (pageWide_any _ _ _ _).mono ?_; rintro e w1 ⟨rfl, rfl⟩))
  first
  | exact bodyPost_ret (by exact results_cell_row rfl _ _ w.heap.size 121 _ (0, 0) _ rfl (heap_alloc_new w _) Tryz.underlying121 rfl (by kernel_rfl)) rfl ⟨rfl, below_alloc (Below.refl _ _) _⟩
  | exact bodyPost_ret (by exact results_cell_row rfl _ _ w.heap.size 121 _ (0, 0) _ rfl (Blk.alloc (heap_alloc_new w _) _) Tryz.underlying121 rfl (by kernel_rfl)) rfl ⟨rfl, below_alloc (below_alloc (Below.refl _ _) _) _⟩
set_option maxRecDepth 100000 in
set_option maxHeartbeats 4000000 in
theorem pageThird_13 (code low : Int) (w : World) (hh : code / 16 = 13) (hl : Go.bits .and .u8 code 15 = low) (h : 0 ≤ low ∧ low < 16) :
    Calls Tryz.prog 188 #[.int .u8 code] w fun e w' => e = .returned (pageThird 13 low).v ∧ Below w.heap.size w w' := by
  go_enter Tryz.func188, Tryz.ntmps188
  go_wp2_with (first | (go_at_call 228; refine (pageColumn_any _ _ (by decide)).mono ?_; rintro e w1 ⟨rfl, rfl⟩) | (go_at_call 227; refine (pageWide_any _ _ _ _).mono ?_; rintro e w1 ⟨rfl, rfl⟩))
  first
  | exact bodyPost_ret (by exact results_cell_row rfl _ _ w.heap.size 121 _ (0, 0) _ rfl (heap_alloc_new w _) Tryz.underlying121 rfl (by kernel_rfl)) rfl ⟨rfl, below_alloc (Below.refl _ _) _⟩
  | exact bodyPost_ret (by exact results_cell_row rfl _ _ w.heap.size 121 _ (0, 0) _ rfl (Blk.alloc (heap_alloc_new w _) _) Tryz.underlying121 rfl (by kernel_rfl)) rfl ⟨rfl, below_alloc (below_alloc (Below.refl _ _) _) _⟩
set_option maxRecDepth 100000 in
set_option maxHeartbeats 4000000 in
theorem pageThird_14 (code low : Int) (w : World) (hh : code / 16 = 14) (hl : Go.bits .and .u8 code 15 = low) (h : 0 ≤ low ∧ low < 16) :
    Calls Tryz.prog 188 #[.int .u8 code] w fun e w' => e = .returned (pageThird 14 low).v ∧ Below w.heap.size w w' := by
  go_enter Tryz.func188, Tryz.ntmps188
  go_wp2_with (first | (go_at_call 228; refine (pageColumn_any _ _ (by decide)).mono ?_; rintro e w1 ⟨rfl, rfl⟩) | (go_at_call 227; refine (pageWide_any _ _ _ _).mono ?_; rintro e w1 ⟨rfl, rfl⟩))
  first
  | exact bodyPost_ret (by exact results_cell_row rfl _ _ w.heap.size 121 _ (0, 0) _ rfl (heap_alloc_new w _) Tryz.underlying121 rfl (by kernel_rfl)) rfl ⟨rfl, below_alloc (Below.refl _ _) _⟩
  | exact bodyPost_ret (by exact results_cell_row rfl _ _ w.heap.size 121 _ (0, 0) _ rfl (Blk.alloc (heap_alloc_new w _) _) Tryz.underlying121 rfl (by kernel_rfl)) rfl ⟨rfl, below_alloc (below_alloc (Below.refl _ _) _) _⟩
set_option maxRecDepth 100000 in
set_option maxHeartbeats 4000000 in
theorem pageThird_15 (code low : Int) (w : World) (hh : code / 16 = 15) (hl : Go.bits .and .u8 code 15 = low) (h : 0 ≤ low ∧ low < 16) :
    Calls Tryz.prog 188 #[.int .u8 code] w fun e w' => e = .returned (pageThird 15 low).v ∧ Below w.heap.size w w' := by
  go_enter Tryz.func188, Tryz.ntmps188
  go_wp2_with (first | (go_at_call 228; refine (pageColumn_any _ _ (by decide)).mono ?_; rintro e w1 ⟨rfl, rfl⟩) | (go_at_call 227; refine (pageWide_any _ _ _ _).mono ?_; rintro e w1 ⟨rfl, rfl⟩))
  first
  | exact bodyPost_ret (by exact results_cell_row rfl _ _ w.heap.size 121 _ (0, 0) _ rfl (heap_alloc_new w _) Tryz.underlying121 rfl (by kernel_rfl)) rfl ⟨rfl, below_alloc (Below.refl _ _) _⟩
  | exact bodyPost_ret (by exact results_cell_row rfl _ _ w.heap.size 121 _ (0, 0) _ rfl (Blk.alloc (heap_alloc_new w _) _) Tryz.underlying121 rfl (by kernel_rfl)) rfl ⟨rfl, below_alloc (below_alloc (Below.refl _ _) _) _⟩
end Go.Proofs.YtkdaphkpllgmbaaGreat

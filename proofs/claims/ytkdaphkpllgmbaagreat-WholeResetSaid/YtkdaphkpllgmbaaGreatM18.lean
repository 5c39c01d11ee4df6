/-
  Contracts of the package page, second part.
-/
import Derived.Test.YtkdaphkpllgmbaaGreatM09
namespace Go.Proofs.YtkdaphkpllgmbaaGreat
open Go.RowKit Sp
set_option maxRecDepth 100000 in
theorem pageWide_any (op mode reg : Int) (w : World) :
    Calls Tryz.prog 227 #[.int .i64 op, .int .i64 mode, .int .i64 reg] w fun e w' => e = .returned (pageWide op mode reg).v ∧ w.alloc (.cells (pageWide op mode reg).cells 121) = w' := by
  by_cases h1 : mode = 1
  · subst h1
    by_cases h2 : op = 25
    · subst h2
      go_enter Tryz.func227, Tryz.ntmps227
      go_wp2
      exact bodyPost_ret (by exact results_cell_row rfl _ _ w.heap.size 121 _ (0, 0) _ rfl (heap_alloc_new w _) Tryz.underlying121 rfl (by kernel_rfl)) rfl ⟨rfl, rfl⟩
    · have e2 : (op == 25) = false := beq_eq_false_iff_ne.mpr h2
      have e3 : pageWide op 1 reg = ⟨op, 2, reg⟩ := by simp [pageWide, h2]
      rw [e3]
      clear h2
      go_enter Tryz.func227, Tryz.ntmps227
      go_wp2
      exact bodyPost_ret (by exact results_cell_row rfl _ _ w.heap.size 121 _ (0, 0) _ rfl (heap_alloc_new w _) Tryz.underlying121 rfl (by kernel_rfl)) rfl ⟨rfl, rfl⟩
  · have e1 : (mode == 1) = false := beq_eq_false_iff_ne.mpr h1
    have e3 : pageWide op mode reg = ⟨op, mode, reg⟩ := by simp [pageWide, h1]
    rw [e3]
    clear h1
    go_enter Tryz.func227, Tryz.ntmps227
    go_wp2
    exact bodyPost_ret (by exact results_cell_row rfl _ _ w.heap.size 121 _ (0, 0) _ rfl (heap_alloc_new w _) Tryz.underlying121 rfl (by kernel_rfl)) rfl ⟨rfl, rfl⟩
attribute [local go_sem] Ent.v Ent.cells
set_option maxRecDepth 100000 in
set_option maxHeartbeats 4000000 in
theorem pageColumns_8 (low : Int) (w : World) (h : 0 ≤ low ∧ low < 16) :
    Calls Tryz.prog 226 #[.int .u8 8, .int .u8 low] w fun e w' => e = .returned (pageColumns 8 low).v ∧ Below w.heap.size w w' := by
  rcases nib low h with rfl | rfl | rfl | rfl | rfl | rfl | rfl | rfl | rfl | rfl | rfl | rfl | rfl | rfl | rfl | rfl <;>
  as_aux_lemma =>
    clear h
    go_enter Tryz.func226, Tryz.ntmps226
    go_wp2_with (first | (go_at_call 228; refine (pageColumn_any _ _ (by decide)).mono ?_; rintro e w1 ⟨rfl, rfl⟩) | (go_at_call 259; refine (pageEight_any _ _ (by decide)).mono ?_; rintro e w1 ⟨rfl, rfl⟩) | (go_at_call 227; refine (pageWide_any _ _ _ _).mono ?_; rintro e w1 ⟨rfl, rfl⟩))
    first
    | exact bodyPost_ret (by exact results_cell_row rfl _ _ w.heap.size 121 _ (0, 0) _ rfl (heap_alloc_new w _) Tryz.underlying121 rfl (by kernel_rfl)) rfl ⟨rfl, below_alloc (Below.refl _ _) _⟩
    | exact bodyPost_ret (by exact results_cell_row rfl _ _ w.heap.size 121 _ (0, 0) _ rfl (Blk.alloc (heap_alloc_new w _) _) Tryz.underlying121 rfl (by kernel_rfl)) rfl ⟨rfl, below_alloc (below_alloc (Below.refl _ _) _) _⟩
set_option maxRecDepth 100000 in
set_option maxHeartbeats 4000000 in
theorem pageColumns_9 (low : Int) (w : World) (h : 0 ≤ low ∧ low < 16) :
    Calls Tryz.prog 226 #[.int .u8 9, .int .u8 low] w fun e w' => e = .returned (pageColumns 9 low).v ∧ Below w.heap.size w w' := by
  rcases nib low h with rfl | rfl | rfl | rfl | rfl | rfl | rfl | rfl | rfl | rfl | rfl | rfl | rfl | rfl | rfl | rfl <;>
  as_aux_lemma =>
    clear h
    go_enter Tryz.func226, Tryz.ntmps226
    go_wp2_with (first | (go_at_call 228; refine (pageColumn_any _ _ (by decide)).mono ?_; rintro e w1 ⟨rfl, rfl⟩) | (go_at_call 259; refine (pageEight_any _ _ (by decide)).mono ?_; rintro e w1 ⟨rfl, rfl⟩) | (go_at_call 227; refine (pageWide_any _ _ _ _).mono ?_; rintro e w1 ⟨rfl, rfl⟩))
    first
    | exact bodyPost_ret (by exact results_cell_row rfl _ _ w.heap.size 121 _ (0, 0) _ rfl (heap_alloc_new w _) Tryz.underlying121 rfl (by kernel_rfl)) rfl ⟨rfl, below_alloc (Below.refl _ _) _⟩
    | exact bodyPost_ret (by exact results_cell_row rfl _ _ w.heap.size 121 _ (0, 0) _ rfl (Blk.alloc (heap_alloc_new w _) _) Tryz.underlying121 rfl (by kernel_rfl)) rfl ⟨rfl, below_alloc (below_alloc (Below.refl _ _) _) _⟩
set_option maxRecDepth 100000 in
set_option maxHeartbeats 4000000 in
theorem pageColumns_10 (low : Int) (w : World) (h : 0 ≤ low ∧ low < 16) :
    Calls Tryz.prog 226 #[.int .u8 10, .int .u8 low] w fun e w' => e = .returned (pageColumns 10 low).v ∧ Below w.heap.size w w' := by
  rcases nib low h with rfl | rfl | rfl | rfl | rfl | rfl | rfl | rfl | rfl | rfl | rfl | rfl | rfl | rfl | rfl | rfl <;>
  as_aux_lemma =>
    clear h
    go_enter Tryz.func226, Tryz.ntmps226
    go_wp2_with (first | (go_at_call 228; refine (pageColumn_any _ _ (by decide)).mono ?_; rintro e w1 ⟨rfl, rfl⟩) | (go_at_call 259; refine (pageEight_any _ _ (by decide)).mono ?_; rintro e w1 ⟨rfl, rfl⟩) | (go_at_call 227; refine (pageWide_any _ _ _ _).mono ?_; rintro e w1 ⟨rfl, rfl⟩))
    first
    | exact bodyPost_ret (by exact results_cell_row rfl _ _ w.heap.size 121 _ (0, 0) _ rfl (heap_alloc_new w _) Tryz.underlying121 rfl (by kernel_rfl)) rfl ⟨rfl, below_alloc (Below.refl _ _) _⟩
    | exact bodyPost_ret (by exact results_cell_row rfl _ _ w.heap.size 121 _ (0, 0) _ rfl (Blk.alloc (heap_alloc_new w _) _) Tryz.underlying121 rfl (by kernel_rfl)) rfl ⟨rfl, below_alloc (below_alloc (Below.refl _ _) _) _⟩
set_option maxRecDepth 100000 in
set_option maxHeartbeats 4000000 in
theorem pageColumns_11 (low : Int) (w : World) (h : 0 ≤ low ∧ low < 16) :
    Calls Tryz.prog 226 #[.int .u8 11, .int .u8 low] w fun e w' => e = .returned (pageColumns 11 low).v ∧ Below w.heap.size w w' := by
  rcases nib low h with rfl | rfl | rfl | rfl | rfl | rfl | rfl | rfl | rfl | rfl | rfl | rfl | rfl | rfl | rfl | rfl <;>
  as_aux_lemma =>
    clear h
    go_enter Tryz.func226, Tryz.ntmps226
    go_wp2_with (first | (go_at_call 228; refine (pageColumn_any _ _ (by decide)).mono ?_; rintro e w1 ⟨rfl, rfl⟩) | (go_at_call 259; refine (pageEight_any _ _ (by decide)).mono ?_; rintro e w1 ⟨rfl, rfl⟩) | (go_at_call 227; refine (pageWide_any _ _ _ _).mono ?_; rintro e w1 ⟨rfl, rfl⟩))
    first
    | exact bodyPost_ret (by exact results_cell_row rfl _ _ w.heap.size 121 _ (0, 0) _ rfl (heap_alloc_new w _) Tryz.underlying121 rfl (by kernel_rfl)) rfl ⟨rfl, below_alloc (Below.refl _ _) _⟩
    | exact bodyPost_ret (by exact results_cell_row rfl _ _ w.heap.size 121 _ (0, 0) _ rfl (Blk.alloc (heap_alloc_new w _) _) Tryz.underlying121 rfl (by kernel_rfl)) rfl ⟨rfl, below_alloc (below_alloc (Below.refl _ _) _) _⟩
set_option maxRecDepth 100000 in
set_option maxHeartbeats 4000000 in
theorem pageColumns_12 (low : Int) (w : World) (h : 0 ≤ low ∧ low < 16) :
    Calls Tryz.prog 226 #[.int .u8 12, .int .u8 low] w fun e w' => e = .returned (pageColumns 12 low).v ∧ Below w.heap.size w w' := by
  rcases nib low h with rfl | rfl | rfl | rfl | rfl | rfl | rfl | rfl | rfl | rfl | rfl | rfl | rfl | rfl | rfl | rfl <;>
  as_aux_lemma =>
    clear h
    go_enter Tryz.func226, Tryz.ntmps226
    go_wp2_with (first | (go_at_call 228; refine (pageColumn_any _ _ (by decide)).mono ?_; rintro e w1 ⟨rfl, rfl⟩) | (go_at_call 259; refine (pageEight_any _ _ (by decide)).mono ?_; rintro e w1 ⟨rfl, rfl⟩) | (go_at_call 227; refine (pageWide_any _ _ _ _).mono ?_; rintro e w1 ⟨rfl, rfl⟩))
    first
    | exact bodyPost_ret (by exact results_cell_row rfl _ _ w.heap.size 121 _ (0, 0) _ rfl (heap_alloc_new w _) Tryz.underlying121 rfl (by kernel_rfl)) rfl ⟨rfl, below_alloc (Below.refl _ _) _⟩
    | exact bodyPost_ret (by exact results_cell_row rfl _ _ w.heap.size 121 _ (0, 0) _ rfl (Blk.alloc (heap_alloc_new w _) _) Tryz.underlying121 rfl (by kernel_rfl)) rfl ⟨rfl, below_alloc (below_alloc (Below.refl _ _) _) _⟩
set_option maxRecDepth 100000 in
set_option maxHeartbeats 4000000 in
theorem pageColumns_13 (low : Int) (w : World) (h : 0 ≤ low ∧ low < 16) :
    Calls Tryz.prog 226 #[.int .u8 13, .int .u8 low] w fun e w' => e = .returned (pageColumns 13 low).v ∧ Below w.heap.size w w' := by
  rcases nib low h with rfl | rfl | rfl | rfl | rfl | rfl | rfl | rfl | rfl | rfl | rfl | rfl | rfl | rfl | rfl | rfl <;>
  as_aux_lemma =>
    clear h
    go_enter Tryz.func226, Tryz.ntmps226
    go_wp2_with (first | (go_at_call 228; refine (pageColumn_any _ _ (by decide)).mono ?_; rintro e w1 ⟨rfl, rfl⟩) | (go_at_call 259; refine (pageEight_any _ _ (by decide)).mono ?_; rintro e w1 ⟨rfl, rfl⟩) | (go_at_call 227; refine (pageWide_any _ _ _ _).mono ?_; rintro e w1 ⟨rfl, rfl⟩))
    first
    | exact bodyPost_ret (by exact results_cell_row rfl _ _ w.heap.size 121 _ (0, 0) _ rfl (heap_alloc_new w _) Tryz.underlying121 rfl (by kernel_rfl)) rfl ⟨rfl, below_alloc (Below.refl _ _) _⟩
    | exact bodyPost_ret (by exact results_cell_row rfl _ _ w.heap.size 121 _ (0, 0) _ rfl (Blk.alloc (heap_alloc_new w _) _) Tryz.underlying121 rfl (by kernel_rfl)) rfl ⟨rfl, below_alloc (below_alloc (Below.refl _ _) _) _⟩
set_option maxRecDepth 100000 in
set_option maxHeartbeats 4000000 in
theorem pageColumns_14 (low : Int) (w : World) (h : 0 ≤ low ∧ low < 16) :
    Calls Tryz.prog 226 #[.int .u8 14, .int .u8 low] w fun e w' => e = .returned (pageColumns 14 low).v ∧ Below w.heap.size w w' := by
  rcases nib low h with rfl | rfl | rfl | rfl | rfl | rfl | rfl | rfl | rfl | rfl | rfl | rfl | rfl | rfl | rfl | rfl <;>
  as_aux_lemma =>
    clear h
    go_enter Tryz.func226, Tryz.ntmps226
    go_wp2_with (first | (go_at_call 228; refine (pageColumn_any _ _ (by decide)).mono ?_; rintro e w1 ⟨rfl, rfl⟩) | (go_at_call 259; refine (pageEight_any _ _ (by decide)).mono ?_; rintro e w1 ⟨rfl, rfl⟩) | (go_at_call 227; refine (pageWide_any _ _ _ _).mono ?_; rintro e w1 ⟨rfl, rfl⟩))
    first
    | exact bodyPost_ret (by exact results_cell_row rfl _ _ w.heap.size 121 _ (0, 0) _ rfl (heap_alloc_new w _) Tryz.underlying121 rfl (by kernel_rfl)) rfl ⟨rfl, below_alloc (Below.refl _ _) _⟩
    | exact bodyPost_ret (by exact results_cell_row rfl _ _ w.heap.size 121 _ (0, 0) _ rfl (Blk.alloc (heap_alloc_new w _) _) Tryz.underlying121 rfl (by kernel_rfl)) rfl ⟨rfl, below_alloc (below_alloc (Below.refl _ _) _) _⟩
set_option maxRecDepth 100000 in
set_option maxHeartbeats 4000000 in
theorem pageColumns_15 (low : Int) (w : World) (h : 0 ≤ low ∧ low < 16) :
    Calls Tryz.prog 226 #[.int .u8 15, .int .u8 low] w fun e w' => e = .returned (pageColumns 15 low).v ∧ Below w.heap.size w w' := by
  rcases nib low h with rfl | rfl | rfl | rfl | rfl | rfl | rfl | rfl | rfl | rfl | rfl | rfl | rfl | rfl | rfl | rfl <;>
  as_aux_lemma =>
    clear h
    go_enter Tryz.func226, Tryz.ntmps226
    go_wp2_with (first | (go_at_call 228; refine (pageColumn_any _ _ (by decide)).mono ?_; rintro e w1 ⟨rfl, rfl⟩) | (go_at_call 259; refine (pageEight_any _ _ (by decide)).mono ?_; rintro e w1 ⟨rfl, rfl⟩) | (go_at_call 227; refine (pageWide_any _ _ _ _).mono ?_; rintro e w1 ⟨rfl, rfl⟩))
    first
    | exact bodyPost_ret (by exact results_cell_row rfl _ _ w.heap.size 121 _ (0, 0) _ rfl (heap_alloc_new w _) Tryz.underlying121 rfl (by kernel_rfl)) rfl ⟨rfl, below_alloc (Below.refl _ _) _⟩
    | exact bodyPost_ret (by exact results_cell_row rfl _ _ w.heap.size 121 _ (0, 0) _ rfl (Blk.alloc (heap_alloc_new w _) _) Tryz.underlying121 rfl (by kernel_rfl)) rfl ⟨rfl, below_alloc (below_alloc (Below.refl _ _) _) _⟩
end Go.Proofs.YtkdaphkpllgmbaaGreat

/-
  Contracts of the package page.
-/
import Derived.Test.YtkdaphkpllgmbaaGreatM01
namespace Go.Proofs.YtkdaphkpllgmbaaGreat
open Go.RowKit Sp
def Sp.Ent.cells (e : Ent) : Array Value := #[.int .i64 e.op, .int .i64 e.mode, .int .i64 e.reg]
def Sp.Ent.v (e : Ent) : Value := .agg e.cells
theorem nib (low : Int) (h : 0 ≤ low ∧ low < 16) : low = 0 ∨ low = 1 ∨ low = 2 ∨ low = 3 ∨ low = 4 ∨ low = 5 ∨ low = 6 ∨ low = 7 ∨ low = 8 ∨ low = 9 ∨ low = 10 ∨ low = 11 ∨ low = 12 ∨ low = 13 ∨ low = 14 ∨ low = 15 := by omega
set_option maxRecDepth 100000 in
set_option maxHeartbeats 4000000 in
theorem pageTens_any (low : Int) (w : World) (h : 0 ≤ low ∧ low < 16) :
    Calls Tryz.prog 223 #[.int .u8 low] w fun e w' => e = .returned (pageTens low).v ∧ w.alloc (.cells (pageTens low).cells 121) = w' := by
  rcases nib low h with rfl | rfl | rfl | rfl | rfl | rfl | rfl | rfl | rfl | rfl | rfl | rfl | rfl | rfl | rfl | rfl <;>
  as_aux_lemma =>
    clear h
    go_enter Tryz.func223, Tryz.ntmps223
    go_wp2
    exact bodyPost_ret (by exact results_cell_row rfl _ _ w.heap.size 121 _ (0, 0) _ rfl (heap_alloc_new w _) Tryz.underlying121 rfl (by kernel_rfl)) rfl ⟨rfl, rfl⟩
set_option maxRecDepth 100000 in
set_option maxHeartbeats 4000000 in
theorem pageThirties_any (low : Int) (w : World) (h : 0 ≤ low ∧ low < 16) :
    Calls Tryz.prog 224 #[.int .u8 low] w fun e w' => e = .returned (pageThirties low).v ∧ w.alloc (.cells (pageThirties low).cells 121) = w' := by
  have i0 : ∀ w, (Instr.index 301 (.agg #[.int .i64 1, .int .i64 2, .int .i64 4, .int .i64 3]) (.int .u8 0)).run Tryz.prog w = .ok (.int .i64 1) w := fun _ => by kernel_rfl
  have i1 : ∀ w, (Instr.index 301 (.agg #[.int .i64 1, .int .i64 2, .int .i64 4, .int .i64 3]) (.int .u8 1)).run Tryz.prog w = .ok (.int .i64 2) w := fun _ => by kernel_rfl
  have i2 : ∀ w, (Instr.index 301 (.agg #[.int .i64 1, .int .i64 2, .int .i64 4, .int .i64 3]) (.int .u8 2)).run Tryz.prog w = .ok (.int .i64 4) w := fun _ => by kernel_rfl
  have i3 : ∀ w, (Instr.index 301 (.agg #[.int .i64 1, .int .i64 2, .int .i64 4, .int .i64 3]) (.int .u8 3)).run Tryz.prog w = .ok (.int .i64 3) w := fun _ => by kernel_rfl
  rcases nib low h with rfl | rfl | rfl | rfl | rfl | rfl | rfl | rfl | rfl | rfl | rfl | rfl | rfl | rfl | rfl | rfl <;>
  as_aux_lemma =>
    clear h
    go_enter Tryz.func224, Tryz.ntmps224
    go_wp2
    exact bodyPost_ret (by exact results_cell_row rfl _ _ w.heap.size 121 _ (0, 0) _ rfl (heap_alloc_new w _) Tryz.underlying121 rfl (by kernel_rfl)) rfl ⟨rfl, rfl⟩
set_option maxRecDepth 100000 in
set_option maxHeartbeats 4000000 in
theorem pageChange_any (low : Int) (w : World) (h : 0 ≤ low ∧ low < 16) :
    Calls Tryz.prog 258 #[.int .u8 low] w fun e w' => e = .returned (.int .i64 (pageChange low)) ∧ w = w' := by
  rcases nib low h with rfl | rfl | rfl | rfl | rfl | rfl | rfl | rfl | rfl | rfl | rfl | rfl | rfl | rfl | rfl | rfl <;>
  as_aux_lemma =>
    clear h
    go_enter Tryz.func258, Tryz.ntmps258
    go_wp2
    go_ret
    exact ⟨rfl, rfl⟩
set_option maxRecDepth 100000 in
set_option maxHeartbeats 4000000 in
theorem pageEight_any (low : Int) (w : World) (h : 0 ≤ low ∧ low < 16) :
    Calls Tryz.prog 259 #[.int .u8 low] w fun e w' => e = .returned (.int .i64 (pageEight low)) ∧ w = w' := by
  rcases nib low h with rfl | rfl | rfl | rfl | rfl | rfl | rfl | rfl | rfl | rfl | rfl | rfl | rfl | rfl | rfl | rfl <;>
  as_aux_lemma =>
    clear h
    go_enter Tryz.func259, Tryz.ntmps259
    go_wp2
    go_ret
    exact ⟨rfl, rfl⟩
set_option maxRecDepth 100000 in
set_option maxHeartbeats 4000000 in
theorem pageColumn_any (low : Int) (w : World) (h : 0 ≤ low ∧ low < 16) :
    Calls Tryz.prog 228 #[.int .u8 low] w fun e w' => e = .returned (.int .i64 (pageColumn low)) ∧ w = w' := by
  have i0 : ∀ w, (Instr.index 301 (.agg #[.int .i64 1, .int .i64 3, .int .i64 4, .int .i64 5]) (.int .u8 (Go.bits .and .u8 0 3))).run Tryz.prog w = .ok (.int .i64 1) w := fun _ => by kernel_rfl
  have i1 : ∀ w, (Instr.index 301 (.agg #[.int .i64 1, .int .i64 3, .int .i64 4, .int .i64 5]) (.int .u8 (Go.bits .and .u8 1 3))).run Tryz.prog w = .ok (.int .i64 3) w := fun _ => by kernel_rfl
  have i2 : ∀ w, (Instr.index 301 (.agg #[.int .i64 1, .int .i64 3, .int .i64 4, .int .i64 5]) (.int .u8 (Go.bits .and .u8 2 3))).run Tryz.prog w = .ok (.int .i64 4) w := fun _ => by kernel_rfl
  have i3 : ∀ w, (Instr.index 301 (.agg #[.int .i64 1, .int .i64 3, .int .i64 4, .int .i64 5]) (.int .u8 (Go.bits .and .u8 3 3))).run Tryz.prog w = .ok (.int .i64 5) w := fun _ => by kernel_rfl
  have i4 : ∀ w, (Instr.index 301 (.agg #[.int .i64 1, .int .i64 3, .int .i64 4, .int .i64 5]) (.int .u8 (Go.bits .and .u8 4 3))).run Tryz.prog w = .ok (.int .i64 1) w := fun _ => by kernel_rfl
  have i5 : ∀ w, (Instr.index 301 (.agg #[.int .i64 1, .int .i64 3, .int .i64 4, .int .i64 5]) (.int .u8 (Go.bits .and .u8 5 3))).run Tryz.prog w = .ok (.int .i64 3) w := fun _ => by kernel_rfl
  have i6 : ∀ w, (Instr.index 301 (.agg #[.int .i64 1, .int .i64 3, .int .i64 4, .int .i64 5]) (.int .u8 (Go.bits .and .u8 6 3))).run Tryz.prog w = .ok (.int .i64 4) w := fun _ => by kernel_rfl
  have i7 : ∀ w, (Instr.index 301 (.agg #[.int .i64 1, .int .i64 3, .int .i64 4, .int .i64 5]) (.int .u8 (Go.bits .and .u8 7 3))).run Tryz.prog w = .ok (.int .i64 5) w := fun _ => by kernel_rfl
  have i8 : ∀ w, (Instr.index 301 (.agg #[.int .i64 1, .int .i64 3, .int .i64 4, .int .i64 5]) (.int .u8 (Go.bits .and .u8 8 3))).run Tryz.prog w = .ok (.int .i64 1) w := fun _ => by kernel_rfl
  have i9 : ∀ w, (Instr.index 301 (.agg #[.int .i64 1, .int .i64 3, .int .i64 4, .int .i64 5]) (.int .u8 (Go.bits .and .u8 9 3))).run Tryz.prog w = .ok (.int .i64 3) w := fun _ => by kernel_rfl
  have i10 : ∀ w, (Instr.index 301 (.agg #[.int .i64 1, .int .i64 3, .int .i64 4, .int .i64 5]) (.int .u8 (Go.bits .and .u8 10 3))).run Tryz.prog w = .ok (.int .i64 4) w := fun _ => by kernel_rfl
  have i11 : ∀ w, (Instr.index 301 (.agg #[.int .i64 1, .int .i64 3, .int .i64 4, .int .i64 5]) (.int .u8 (Go.bits .and .u8 11 3))).run Tryz.prog w = .ok (.int .i64 5) w := fun _ => by kernel_rfl
  have i12 : ∀ w, (Instr.index 301 (.agg #[.int .i64 1, .int .i64 3, .int .i64 4, .int .i64 5]) (.int .u8 (Go.bits .and .u8 12 3))).run Tryz.prog w = .ok (.int .i64 1) w := fun _ => by kernel_rfl
  have i13 : ∀ w, (Instr.index 301 (.agg #[.int .i64 1, .int .i64 3, .int .i64 4, .int .i64 5]) (.int .u8 (Go.bits .and .u8 13 3))).run Tryz.prog w = .ok (.int .i64 3) w := fun _ => by kernel_rfl
  have i14 : ∀ w, (Instr.index 301 (.agg #[.int .i64 1, .int .i64 3, .int .i64 4, .int .i64 5]) (.int .u8 (Go.bits .and .u8 14 3))).run Tryz.prog w = .ok (.int .i64 4) w := fun _ => by kernel_rfl
  have i15 : ∀ w, (Instr.index 301 (.agg #[.int .i64 1, .int .i64 3, .int .i64 4, .int .i64 5]) (.int .u8 (Go.bits .and .u8 15 3))).run Tryz.prog w = .ok (.int .i64 5) w := fun _ => by kernel_rfl
  rcases nib low h with rfl | rfl | rfl | rfl | rfl | rfl | rfl | rfl | rfl | rfl | rfl | rfl | rfl | rfl | rfl | rfl <;>
  as_aux_lemma =>
    clear h
    go_enter Tryz.func228, Tryz.ntmps228
    go_wp2
    go_ret
    exact ⟨rfl, rfl⟩
theorem pageChange_lits : pageChange 0 = 13 ∧ pageChange 1 = 0 := by decide
set_option maxRecDepth 100000 in
set_option maxHeartbeats 4000000 in
theorem pageMemory_any (low : Int) (mode : Int) (w : World) (h : 0 ≤ low ∧ low < 16) :
    Calls Tryz.prog 222 #[.int .u8 low, .int .i64 mode] w fun e w' => e = .returned (pageMemory low mode).v ∧ w.alloc (.cells (pageMemory low mode).cells 121) = w' := by
  rcases nib low h with rfl | rfl | rfl | rfl | rfl | rfl | rfl | rfl | rfl | rfl | rfl | rfl | rfl | rfl | rfl | rfl <;>
  as_aux_lemma =>
    clear h
    go_enter Tryz.func222, Tryz.ntmps222
    go_wp2_with (go_at_call 258; refine (pageChange_any _ _ (by decide)).mono ?_; rintro e w1 ⟨rfl, rfl⟩)
    exact bodyPost_ret (by exact results_cell_row rfl _ _ w.heap.size 121 _ (0, 0) _ rfl (heap_alloc_new w _) Tryz.underlying121 rfl (by kernel_rfl)) rfl ⟨rfl, rfl⟩
set_option maxRecDepth 100000 in
set_option maxHeartbeats 4000000 in
theorem pageInside_any (low : Int) (reg : Int) (w : World) (h : 0 ≤ low ∧ low < 16) :
    Calls Tryz.prog 225 #[.int .u8 low, .int .i64 reg] w fun e w' => e = .returned (pageInside low reg).v ∧ w.alloc (.cells (pageInside low reg).cells 121) = w' := by
  rcases nib low h with rfl | rfl | rfl | rfl | rfl | rfl | rfl | rfl | rfl | rfl | rfl | rfl | rfl | rfl | rfl | rfl <;>
  as_aux_lemma =>
    clear h
    go_enter Tryz.func225, Tryz.ntmps225
    go_wp2_with (go_at_call 258; refine (pageChange_any _ _ (by decide)).mono ?_; rintro e w1 ⟨rfl, rfl⟩)
    exact bodyPost_ret (by exact results_cell_row rfl _ _ w.heap.size 121 _ (0, 0) _ rfl (heap_alloc_new w _) Tryz.underlying121 rfl (by kernel_rfl)) rfl ⟨rfl, rfl⟩
end Go.Proofs.YtkdaphkpllgmbaaGreat

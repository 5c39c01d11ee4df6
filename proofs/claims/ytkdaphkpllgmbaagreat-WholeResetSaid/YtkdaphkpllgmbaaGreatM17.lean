/-
  Contracts of core.New, core.Now.
-/
import Derived.Test.YtkdaphkpllgmbaaGreatM16
namespace Go.Proofs.YtkdaphkpllgmbaaGreat
open Go.RowKit Sp
set_option linter.unusedVariables false
set_option linter.unusedSimpArgs false
attribute [local go_sem] Sp.Regs.v Sp.Regs.cells
set_option maxRecDepth 100000 in
set_option maxHeartbeats 1000000 in
theorem Now_t {p : Nat} {s : Core} (w : World) (hC : CoreAt p s w) :
    Calls Tryz.prog 122 #[.pointer (some ⟨p, 0, none⟩)] w fun e w' => e = .returned s.r.v ∧ Below w.heap.size w w' := by
  have hlt := hC.lt
  obtain ⟨ring, qa, lA, lc, hI⟩ := hC
  have F := core_facts hI
  clear hI
  go_enter Tryz.func122, Tryz.ntmps122
  go_wp2
  refine bodyPost_ret (v := s.r.v) ?_ rfl ⟨rfl, below_alloc (Below.refl _ _) _⟩
  exact (results_cell_row rfl _ _ w.heap.size 39 s.r.cells (0, 0) _ rfl (heap_alloc_new w _) Tryz.underlying39 rfl (by kernel_rfl)).trans rfl
def newL (r : Regs) : List Value := qL r (stepsV (List.replicate 24 step0)) 0 0 (restL (Core.new r) (.slice none 0 0))
theorem CoreAt.fresh {p0 : Nat} (r : Regs) (w : World) (h : LBlk w p0 209 (newL r)) : CoreAt p0 (Core.new r) w := ⟨_, 0, none, 0, h, RingOf.zero, ListOk.nil_ _ _, Nat.le_refl _⟩
theorem newC (r : Regs) : (((((((((Tryz.zeroCells209.setIfInBounds 0 (.int .u8 (r.a.toNat : Int))).setIfInBounds 1 (.int .u8 (r.b.toNat : Int))).setIfInBounds 2 (.int .u8 (r.dp.toNat : Int))).setIfInBounds 3 (.int .u8 (r.cc.toNat : Int))).setIfInBounds 4 (.int .u16 (r.x.toNat : Int))).setIfInBounds 5 (.int .u16 (r.y.toNat : Int))).setIfInBounds 6 (.int .u16 (r.u.toNat : Int))).setIfInBounds 7 (.int .u16 (r.s.toNat : Int))).setIfInBounds 8 (.int .u16 (r.pc.toNat : Int))) = (newL r).toArray := by kernel_rfl
set_option maxRecDepth 100000 in
set_option maxHeartbeats 1000000 in
theorem New_t (r : Regs) (w : World) :
    Calls Tryz.prog 70 #[r.v] w fun e w' => e = .returned (.pointer (some ⟨w.heap.size + 1, 0, none⟩)) ∧ CoreAt (w.heap.size + 1) (Core.new r) w' ∧ Below w.heap.size w w' := by
  have hfin : CoreAt (w.heap.size + 1) (Core.new r) ((w.alloc (.cells r.cells 39)).alloc (.cells (newL r).toArray 209)) := CoreAt.fresh r _ (Blk.newAt _ _ _ _ (by simp))
  have HF := Lib.hid hfin
  clear hfin
  go_enter Tryz.func70, Tryz.ntmps70
  go_wp2
  go_ret
  rw [newC]
  exact ⟨rfl, HF.out, below_alloc (below_alloc (Below.refl _ _) _) _⟩
end Go.Proofs.YtkdaphkpllgmbaaGreat

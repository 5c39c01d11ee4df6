/-
  Contracts of edge, conf's Right and Check, arbiter.Next, prio (whole seat).
  The processor's block: 19 cells; stores into it; the core and the log beside it.
  Contracts of the processor's small methods.
  Contracts of prio.Row, Wakes, Behind.
  Contract of ram.New.
-/
import Derived.Test.YtkdaphkpllgmbaaGreatM07
import Derived.Lib.Hide
import Derived.Deep.RegionHeld3
import Derived.OrdersHeld
import Derived.Test.YtkdaphkpllgmbaaGreatM23
import Derived.Test.YtkdaphkpllgmbaaGreatM32
import Derived.Test.YtkdaphkpllgmbaaGreatM33
import Derived.Deep.RegionWith
import Derived.Deep.CutBlock
import Derived.Test.YtkdaphkpllgmbaaGreatM01
import Derived.Great.BuildSlice
namespace Go.Proofs.YtkdaphkpllgmbaaGreat
open Go.RowKit Sp
set_option linter.unusedVariables false
set_option linter.unusedSimpArgs false
theorem Sample_any (a b c lv : Bool) (w : World) :
    Calls Tryz.prog 74 #[.agg #[.bool a, .bool b, .bool c], .bool lv] w fun e w' => e = .returned (.agg #[.bool lv, .bool b, .bool (c || b && lv && !a)]) ∧ Below w.heap.size w w' := by
  go_enter Tryz.func74, Tryz.ntmps74
  go_wp2
  all_goals
    refine bodyPost_ret (by first | (simp [results, Tryz.results74, go_sem]; done) | (simp [results, Tryz.results74, go_sem]; rfl)) rfl ⟨?_, by repeat (first | exact Below.refl _ _ | apply below_alloc)⟩
    simp_all
theorem Arm_any (a b c : Bool) (w : World) :
    Calls Tryz.prog 81 #[.agg #[.bool a, .bool b, .bool c]] w fun e w' => e = .returned (.agg #[.bool a, .bool true, .bool c]) ∧ Below w.heap.size w w' := by
  go_enter Tryz.func81, Tryz.ntmps81
  go_wp2
  refine bodyPost_ret (by first | (simp [results, Tryz.results81, go_sem]; done) | (simp [results, Tryz.results81, go_sem]; rfl)) rfl ⟨rfl, by repeat (first | exact Below.refl _ _ | apply below_alloc)⟩
theorem Take_any (a b c : Bool) (w : World) :
    Calls Tryz.prog 79 #[.agg #[.bool a, .bool b, .bool c]] w fun e w' => e = .returned (.agg #[.bool a, .bool b, .bool false]) ∧ Below w.heap.size w w' := by
  go_enter Tryz.func79, Tryz.ntmps79
  go_wp2
  refine bodyPost_ret (by first | (simp [results, Tryz.results79, go_sem]; done) | (simp [results, Tryz.results79, go_sem]; rfl)) rfl ⟨rfl, by repeat (first | exact Below.refl _ _ | apply below_alloc)⟩
theorem Reset_any (a b c : Bool) (w : World) :
    Calls Tryz.prog 121 #[.agg #[.bool a, .bool b, .bool c]] w fun e w' => e = .returned (.agg #[.bool a, .bool false, .bool false]) ∧ Below w.heap.size w w' := by
  go_enter Tryz.func121, Tryz.ntmps121
  go_wp2
  refine bodyPost_ret (by first | (simp [results, Tryz.results121, go_sem]; done) | (simp [results, Tryz.results121, go_sem]; rfl)) rfl ⟨rfl, by repeat (first | exact Below.refl _ _ | apply below_alloc)⟩
def confRight (k r : Int) : Prop := (k = 0 ∨ k = 1) ∧ 0 ≤ r ∧ r ≤ 65536
instance (k r : Int) : Decidable (confRight k r) := by unfold confRight; infer_instance
def confErr (k r : Int) : Int := if k = 0 ∨ k = 1 then (if 0 ≤ r ∧ r ≤ 65536 then 0 else 11) else 10
theorem Right_any (k r : Int) (w : World) (k0 : -9223372036854775808 ≤ k) (k1 : k ≤ 9223372036854775807) (r0 : -9223372036854775808 ≤ r) (r1 : r ≤ 9223372036854775807) :
    Calls Tryz.prog 67 #[.agg #[.int .i64 k, .int .i64 r]] w fun e w' => e = .returned (.bool (decide (confRight k r))) ∧ Below w.heap.size w w' := by
  have three : k = 0 ∨ k = 1 ∨ (k ≠ 0 ∧ k ≠ 1) := by omega
  have threeR : r < 0 ∨ (0 ≤ r ∧ r ≤ 65536) ∨ 65536 < r := by omega
  rcases three with rfl | rfl | ⟨h1, h2⟩
  · rcases threeR with h | ⟨h, h'⟩ | h
    · have HD : Hid (decide (confRight 0 r) = false) := decide_eq_false (by unfold confRight; omega)
      go_enter Tryz.func67, Tryz.ntmps67
      go_wp2
      go_ret
      rw [HD.out]
      exact ⟨rfl, below_alloc (Below.refl _ _) _⟩
    · have HD : Hid (decide (confRight 0 r) = true) := decide_eq_true (by unfold confRight; omega)
      go_enter Tryz.func67, Tryz.ntmps67
      go_wp2
      go_ret
      rw [HD.out]
      exact ⟨by first | rfl | (simp; done) | (simp; omega), below_alloc (Below.refl _ _) _⟩
    · have HD : Hid (decide (confRight 0 r) = false) := decide_eq_false (by unfold confRight; omega)
      go_enter Tryz.func67, Tryz.ntmps67
      go_wp2
      go_ret
      rw [HD.out]
      exact ⟨by first | rfl | (simp; done) | (simp; omega), below_alloc (Below.refl _ _) _⟩
  · rcases threeR with h | ⟨h, h'⟩ | h
    · have HD : Hid (decide (confRight 1 r) = false) := decide_eq_false (by unfold confRight; omega)
      go_enter Tryz.func67, Tryz.ntmps67
      go_wp2
      go_ret
      rw [HD.out]
      exact ⟨rfl, below_alloc (Below.refl _ _) _⟩
    · have HD : Hid (decide (confRight 1 r) = true) := decide_eq_true (by unfold confRight; omega)
      go_enter Tryz.func67, Tryz.ntmps67
      go_wp2
      go_ret
      rw [HD.out]
      exact ⟨by first | rfl | (simp; done) | (simp; omega), below_alloc (Below.refl _ _) _⟩
    · have HD : Hid (decide (confRight 1 r) = false) := decide_eq_false (by unfold confRight; omega)
      go_enter Tryz.func67, Tryz.ntmps67
      go_wp2
      go_ret
      rw [HD.out]
      exact ⟨by first | rfl | (simp; done) | (simp; omega), below_alloc (Below.refl _ _) _⟩
  · have b1 : (k == 0) = false := beq_eq_false_iff_ne.2 h1
    have b2 : (k == 1) = false := beq_eq_false_iff_ne.2 h2
    have HD : Hid (decide (confRight k r) = false) := decide_eq_false (by unfold confRight; omega)
    clear h1 h2 threeR
    go_enter Tryz.func67, Tryz.ntmps67
    go_wp2
    go_ret
    rw [HD.out]
    exact ⟨rfl, below_alloc (Below.refl _ _) _⟩
set_option maxHeartbeats 2000000 in
theorem Check_any (k r : Int) (w : World) (k0 : -9223372036854775808 ≤ k) (k1 : k ≤ 9223372036854775807) (r0 : -9223372036854775808 ≤ r) (r1 : r ≤ 9223372036854775807) :
    Calls Tryz.prog 39 #[.agg #[.int .i64 k, .int .i64 r]] w fun e w' => e = .returned (.int .i64 (confErr k r)) ∧ Below w.heap.size w w' := by
  by_cases hk : k = 0 ∨ k = 1
  · have hR : Hid (∀ W : World, Calls Tryz.prog 67 #[.agg #[.int .i64 k, .int .i64 r]] W fun e w' => e = .returned (.bool (decide (0 ≤ r ∧ r ≤ 65536))) ∧ Below W.heap.size W w') := fun W => by
      have h := Right_any k r W k0 k1 r0 r1
      rw [show decide (confRight k r) = decide (0 ≤ r ∧ r ≤ 65536) from by unfold confRight; simp [hk]] at h
      exact h
    have HE : Hid (confErr k r = if 0 ≤ r ∧ r ≤ 65536 then 0 else 11) := by unfold Hid confErr; rw [if_pos hk]
    by_cases hr : 0 ≤ r ∧ r ≤ 65536
    · rcases hk with rfl | rfl
      all_goals
        go_enter Tryz.func39, Tryz.ntmps39
        go_wp2_with (go_at_call 67; refine (hR.out _).mono ?_; rintro e w1 ⟨rfl, hb⟩; rw [decide_eq_true hr])
        go_ret
        rw [HE.out, if_pos hr]
        exact ⟨rfl, below_then (below_alloc (Below.refl _ _) _) hb⟩
    · rcases hk with rfl | rfl
      all_goals
        go_enter Tryz.func39, Tryz.ntmps39
        go_wp2_with (go_at_call 67; refine (hR.out _).mono ?_; rintro e w1 ⟨rfl, hb⟩; rw [decide_eq_false hr])
        go_ret
        rw [HE.out, if_neg hr]
        exact ⟨rfl, below_then (below_alloc (Below.refl _ _) _) hb⟩
  · have b1 : (k != 0) = true := by rw [bne_iff_ne]; omega
    have b2 : (k != 1) = true := by rw [bne_iff_ne]; omega
    have HE : Hid (confErr k r = 10) := by unfold Hid confErr; rw [if_neg hk]
    clear hk
    go_enter Tryz.func39, Tryz.ntmps39
    go_wp2
    go_ret
    rw [HE.out]
    exact ⟨rfl, below_alloc (Below.refl _ _) _⟩
def Sp.Latch.v (l : Latch) : Value := .agg #[.bool l.level, .bool l.armed, .bool l.set]
def Sp.Arb.cells (s : Arb) : Array Value := #[.int .i64 s.phase, .int .i64 s.count]
def Sp.Arb.v (s : Arb) : Value := .agg s.cells
def Sp.Pins.v (p : Pins) : Value := .agg #[.bool p.reset, .bool p.nmi, .bool p.firq, .bool p.irq, .bool p.halt, .bool p.req]
attribute [local go_sem] Sp.Arb.v Sp.Arb.cells
theorem sample_t (l : Latch) (x : Bool) (w : World) : Calls Tryz.prog 74 #[l.v, .bool x] w fun e w' => e = .returned (sample l x).v ∧ Below w.heap.size w w' := Sample_any l.level l.armed l.set x w
theorem arm_t (l : Latch) (w : World) : Calls Tryz.prog 81 #[l.v] w fun e w' => e = .returned ({ l with armed := true } : Latch).v ∧ Below w.heap.size w w' := Arm_any l.level l.armed l.set w
theorem take_t (l : Latch) (w : World) : Calls Tryz.prog 79 #[l.v] w fun e w' => e = .returned ({ l with set := false } : Latch).v ∧ Below w.heap.size w w' := Take_any l.level l.armed l.set w
theorem resetL_t (l : Latch) (w : World) : Calls Tryz.prog 121 #[l.v] w fun e w' => e = .returned (⟨l.level, false, false⟩ : Latch).v ∧ Below w.heap.size w w' := Reset_any l.level l.armed l.set w
set_option maxRecDepth 100000 in
set_option maxHeartbeats 1000000 in
theorem arbNext_k0t (s : Arb) (w : World) :
    Calls Tryz.prog 76 #[.int .i64 0, s.v, .bool true] w fun e w' => e = .returned (.tuple #[(⟨0, 0⟩ : Arb).v, .int .i64 1]) ∧ Below w.heap.size w w' := by
  go_enter Tryz.func76, Tryz.ntmps76
  go_wp2
  refine bodyPost_ret (v := .tuple #[(⟨0, 0⟩ : Arb).v, .int .i64 1]) ?_ rfl ⟨rfl, (below_alloc (below_alloc (Below.refl _ _) _) _)⟩
  exact (results_cell_tmp2 (p := 6) (q := 7) (ty := 67) rfl _ _ (w.heap.size + 1) 67 (⟨0, 0⟩ : Arb).cells (0, 0) _ rfl (Blk.newAt3 (w.alloc _) _ _ (w.heap.size + 1) (by simp)) Tryz.underlying67 rfl (by kernel_rfl)).trans rfl
set_option maxRecDepth 100000 in
set_option maxHeartbeats 1000000 in
theorem arbNext_k0f (s : Arb) (w : World) :
    Calls Tryz.prog 76 #[.int .i64 0, s.v, .bool false] w fun e w' => e = .returned (.tuple #[(⟨0, 0⟩ : Arb).v, .int .i64 0]) ∧ Below w.heap.size w w' := by
  go_enter Tryz.func76, Tryz.ntmps76
  go_wp2
  refine bodyPost_ret (v := .tuple #[(⟨0, 0⟩ : Arb).v, .int .i64 0]) ?_ rfl ⟨rfl, (below_alloc (below_alloc (Below.refl _ _) _) _)⟩
  exact (results_cell_tmp2 (p := 6) (q := 7) (ty := 67) rfl _ _ (w.heap.size + 1) 67 (⟨0, 0⟩ : Arb).cells (0, 0) _ rfl (Blk.newAt3 (w.alloc _) _ _ (w.heap.size + 1) (by simp)) Tryz.underlying67 rfl (by kernel_rfl)).trans rfl
set_option maxRecDepth 100000 in
set_option maxHeartbeats 1000000 in
theorem arbNext_A (n : Int) (w : World) (hn : n < 15) :
    Calls Tryz.prog 76 #[.int .i64 1, (⟨1, n⟩ : Arb).v, .bool true] w fun e w' => e = .returned (.tuple #[(⟨1, IntKind.i64.wrap (n + 1)⟩ : Arb).v, .int .i64 1]) ∧ Below w.heap.size w w' := by
  rw [show IntKind.i64.wrap (n + 1) = wrap64 (n + 1) from by rw [IntKind.wrap_i64, wrap64]]
  have d : decide (n < 15) = true := decide_eq_true hn
  clear hn
  go_enter Tryz.func76, Tryz.ntmps76
  go_wp2
  refine bodyPost_ret (v := .tuple #[(⟨1, wrap64 (n + 1)⟩ : Arb).v, .int .i64 1]) ?_ rfl ⟨rfl, (below_alloc (below_alloc (Below.refl _ _) _) _)⟩
  exact (results_cell_tmp2 (p := 6) (q := 7) (ty := 67) rfl _ _ (w.heap.size + 1) 67 (⟨1, wrap64 (n + 1)⟩ : Arb).cells (0, 0) _ rfl (Blk.newAt3 (w.alloc _) _ _ (w.heap.size + 1) (by simp)) Tryz.underlying67 rfl (by kernel_rfl)).trans rfl
set_option maxRecDepth 100000 in
set_option maxHeartbeats 1000000 in
theorem arbNext_B (n : Int) (w : World) (hn : ¬ n < 15) :
    Calls Tryz.prog 76 #[.int .i64 1, (⟨1, n⟩ : Arb).v, .bool true] w fun e w' => e = .returned (.tuple #[(⟨2, 0⟩ : Arb).v, .int .i64 2]) ∧ Below w.heap.size w w' := by
  have d : decide (n < 15) = false := decide_eq_false hn
  clear hn
  go_enter Tryz.func76, Tryz.ntmps76
  go_wp2
  refine bodyPost_ret (v := .tuple #[(⟨2, 0⟩ : Arb).v, .int .i64 2]) ?_ rfl ⟨rfl, (below_alloc (below_alloc (Below.refl _ _) _) _)⟩
  exact (results_cell_tmp2 (p := 6) (q := 7) (ty := 67) rfl _ _ (w.heap.size + 1) 67 (⟨2, 0⟩ : Arb).cells (0, 0) _ rfl (Blk.newAt3 (w.alloc _) _ _ (w.heap.size + 1) (by simp)) Tryz.underlying67 rfl (by kernel_rfl)).trans rfl
set_option maxRecDepth 100000 in
set_option maxHeartbeats 1000000 in
theorem arbNext_C (n : Int) (w : World) :
    Calls Tryz.prog 76 #[.int .i64 1, (⟨1, n⟩ : Arb).v, .bool false] w fun e w' => e = .returned (.tuple #[(⟨2, 0⟩ : Arb).v, .int .i64 2]) ∧ Below w.heap.size w w' := by
  go_enter Tryz.func76, Tryz.ntmps76
  go_wp2
  refine bodyPost_ret (v := .tuple #[(⟨2, 0⟩ : Arb).v, .int .i64 2]) ?_ rfl ⟨rfl, (below_alloc (below_alloc (Below.refl _ _) _) _)⟩
  exact (results_cell_tmp2 (p := 6) (q := 7) (ty := 67) rfl _ _ (w.heap.size + 1) 67 (⟨2, 0⟩ : Arb).cells (0, 0) _ rfl (Blk.newAt3 (w.alloc _) _ _ (w.heap.size + 1) (by simp)) Tryz.underlying67 rfl (by kernel_rfl)).trans rfl
set_option maxRecDepth 100000 in
set_option maxHeartbeats 1000000 in
theorem arbNext_D (n : Int) (w : World) :
    Calls Tryz.prog 76 #[.int .i64 1, (⟨0, n⟩ : Arb).v, .bool true] w fun e w' => e = .returned (.tuple #[(⟨1, 0⟩ : Arb).v, .int .i64 2]) ∧ Below w.heap.size w w' := by
  go_enter Tryz.func76, Tryz.ntmps76
  go_wp2
  refine bodyPost_ret (v := .tuple #[(⟨1, 0⟩ : Arb).v, .int .i64 2]) ?_ rfl ⟨rfl, (below_alloc (below_alloc (Below.refl _ _) _) _)⟩
  exact (results_cell_tmp2 (p := 6) (q := 7) (ty := 67) rfl _ _ (w.heap.size + 1) 67 (⟨1, 0⟩ : Arb).cells (0, 0) _ rfl (Blk.newAt3 (w.alloc _) _ _ (w.heap.size + 1) (by simp)) Tryz.underlying67 rfl (by kernel_rfl)).trans rfl
set_option maxRecDepth 100000 in
set_option maxHeartbeats 1000000 in
theorem arbNext_E (n : Int) (w : World) :
    Calls Tryz.prog 76 #[.int .i64 1, (⟨0, n⟩ : Arb).v, .bool false] w fun e w' => e = .returned (.tuple #[(⟨0, 0⟩ : Arb).v, .int .i64 0]) ∧ Below w.heap.size w w' := by
  go_enter Tryz.func76, Tryz.ntmps76
  go_wp2
  refine bodyPost_ret (v := .tuple #[(⟨0, 0⟩ : Arb).v, .int .i64 0]) ?_ rfl ⟨rfl, (below_alloc (below_alloc (Below.refl _ _) _) _)⟩
  exact (results_cell_tmp2 (p := 6) (q := 7) (ty := 67) rfl _ _ (w.heap.size + 1) 67 (⟨0, 0⟩ : Arb).cells (0, 0) _ rfl (Blk.newAt3 (w.alloc _) _ _ (w.heap.size + 1) (by simp)) Tryz.underlying67 rfl (by kernel_rfl)).trans rfl
set_option maxRecDepth 100000 in
set_option maxHeartbeats 1000000 in
theorem arbNext_Ft (k n : Int) (w : World) (h0 : k ≠ 0) (h1 : k ≠ 1) :
    Calls Tryz.prog 76 #[.int .i64 1, (⟨k, n⟩ : Arb).v, .bool true] w fun e w' => e = .returned (.tuple #[(⟨0, 0⟩ : Arb).v, .int .i64 0]) ∧ Below w.heap.size w w' := by
  have b0 : (k == 0) = false := beq_eq_false_iff_ne.mpr h0
  have b1 : (k == 1) = false := beq_eq_false_iff_ne.mpr h1
  clear h0 h1
  go_enter Tryz.func76, Tryz.ntmps76
  go_wp2
  refine bodyPost_ret (v := .tuple #[(⟨0, 0⟩ : Arb).v, .int .i64 0]) ?_ rfl ⟨rfl, (below_alloc (below_alloc (Below.refl _ _) _) _)⟩
  exact (results_cell_tmp2 (p := 6) (q := 7) (ty := 67) rfl _ _ (w.heap.size + 1) 67 (⟨0, 0⟩ : Arb).cells (0, 0) _ rfl (Blk.newAt3 (w.alloc _) _ _ (w.heap.size + 1) (by simp)) Tryz.underlying67 rfl (by kernel_rfl)).trans rfl
set_option maxRecDepth 100000 in
set_option maxHeartbeats 1000000 in
theorem arbNext_Ff (k n : Int) (w : World) (h0 : k ≠ 0) (h1 : k ≠ 1) :
    Calls Tryz.prog 76 #[.int .i64 1, (⟨k, n⟩ : Arb).v, .bool false] w fun e w' => e = .returned (.tuple #[(⟨0, 0⟩ : Arb).v, .int .i64 0]) ∧ Below w.heap.size w w' := by
  have b0 : (k == 0) = false := beq_eq_false_iff_ne.mpr h0
  have b1 : (k == 1) = false := beq_eq_false_iff_ne.mpr h1
  clear h0 h1
  go_enter Tryz.func76, Tryz.ntmps76
  go_wp2
  refine bodyPost_ret (v := .tuple #[(⟨0, 0⟩ : Arb).v, .int .i64 0]) ?_ rfl ⟨rfl, (below_alloc (below_alloc (Below.refl _ _) _) _)⟩
  exact (results_cell_tmp2 (p := 6) (q := 7) (ty := 67) rfl _ _ (w.heap.size + 1) 67 (⟨0, 0⟩ : Arb).cells (0, 0) _ rfl (Blk.newAt3 (w.alloc _) _ _ (w.heap.size + 1) (by simp)) Tryz.underlying67 rfl (by kernel_rfl)).trans rfl
theorem arbNext_t (kind : Int) (s : Arb) (req : Bool) (w : World) (hk : kind = 0 ∨ kind = 1) :
    Calls Tryz.prog 76 #[.int .i64 kind, s.v, .bool req] w fun e w' => e = .returned (.tuple #[(arbNext kind s req).1.v, .int .i64 (arbNext kind s req).2]) ∧ Below w.heap.size w w' := by
  rcases hk with rfl | rfl
  · cases req
    · exact arbNext_k0f s w
    · exact arbNext_k0t s w
  · obtain ⟨k, n⟩ := s
    by_cases h1 : k = 1
    · subst h1
      cases req
      · rw [show arbNext 1 ⟨1, n⟩ false = (⟨2, 0⟩, 2) from by simp [arbNext]]; exact arbNext_C n w
      · by_cases hn : n < 15
        · rw [show arbNext 1 ⟨1, n⟩ true = (⟨1, IntKind.i64.wrap (n + 1)⟩, 1) from by simp [arbNext, hn]]; exact arbNext_A n w hn
        · rw [show arbNext 1 ⟨1, n⟩ true = (⟨2, 0⟩, 2) from by simp [arbNext, hn]]; exact arbNext_B n w hn
    by_cases h0 : k = 0
    · subst h0
      cases req
      · exact arbNext_E n w
      · exact arbNext_D n w
    · cases req
      · rw [show arbNext 1 ⟨k, n⟩ false = (⟨0, 0⟩, 0) from by simp [arbNext, h0, h1]]; exact arbNext_Ff k n w h0 h1
      · rw [show arbNext 1 ⟨k, n⟩ true = (⟨0, 0⟩, 0) from by simp [arbNext, h0, h1]]; exact arbNext_Ft k n w h0 h1
end Go.Proofs.YtkdaphkpllgmbaaGreat
namespace Go.Proofs.YtkdaphkpllgmbaaGreat
open Go.RowKit Sp
set_option linter.unusedVariables false
set_option linter.unusedSimpArgs false
def cpuL (s : Cpu) (lv : Value) (p : Nat) : List Value := [.bool s.latch.level, .bool s.latch.armed, .bool s.latch.set, .int .i64 s.arb.phase, .int .i64 s.arb.count, .int .i64 s.kind, .int .i64 s.mode, .int .i64 s.row, lv, .int .u8 (s.now.a.toNat : Int), .int .u8 (s.now.b.toNat : Int), .int .u8 (s.now.dp.toNat : Int), .int .u8 (s.now.cc.toNat : Int), .int .u16 (s.now.x.toNat : Int), .int .u16 (s.now.y.toNat : Int), .int .u16 (s.now.u.toNat : Int), .int .u16 (s.now.s.toNat : Int), .int .u16 (s.now.pc.toNat : Int), .pointer (some ⟨p, 0, none⟩)]
/-- Block g is the processor s; p its core's block, lv its log, at most N bytes; all that is its own lies at B or above. -/
structure CpuIn (B N g p : Nat) (lv : Value) (s : Cpu) (w : World) : Prop where
  blk : LBlk w g 97 (cpuL s lv p)
  core : CoreAt p s.core w
  log : ∃ n, ∃ xs : List UInt8, w.ownsRow B 5 1 lv n (bytesV xs) ∧ n ≤ N
  hg : B ≤ g
  hp : B ≤ p
theorem CpuIn.lt {B N g p : Nat} {lv : Value} {s : Cpu} {w : World} (h : CpuIn B N g p lv s w) : g < w.heap.size := h.blk.lt
theorem CpuIn.ltp {B N g p : Nat} {lv : Value} {s : Cpu} {w : World} (h : CpuIn B N g p lv s w) : p < w.heap.size := h.core.lt
theorem CpuIn.ne {B N g p : Nat} {lv : Value} {s : Cpu} {w : World} (h : CpuIn B N g p lv s w) : g ≠ p := by
  obtain ⟨_, hb⟩ := (show ∃ cs, Blk w p 209 cs from by obtain ⟨_, _, _, _, h⟩ := h.core; exact ⟨_, h.blk⟩)
  exact Blk.ne_ h.blk hb (by decide)
theorem own_block {w : World} {B n g : Nat} {v : Value} {xs : List Value} {t : TypeId} {cs : Array Value} (h : w.ownsRow B 5 1 v n xs) (hb : Blk w g t cs) (ht : 5 ≠ t) : v.ownBlock = none ∨ v.ownBlock ≠ some g := by
  rcases h.2 with ⟨h1, _⟩ | ⟨k, cap, cur, h1, _, h3, _⟩
  · left; rw [h1]; rfl
  · right; rw [h1]; show some k ≠ some g
    intro e; injection e with e; subst e
    rw [Blk] at hb; rw [hb] at h3; injection h3 with h3; injection h3 with _ h3 _; exact ht h3.symm
theorem CpuIn.below {B N g p : Nat} {lv : Value} {s : Cpu} {w w' : World} (h : CpuIn B N g p lv s w) (hb : Below w.heap.size w w') : CpuIn B N g p lv s w' := by
  obtain ⟨n, xs, ho, hn⟩ := h.log
  exact ⟨h.blk.below hb h.blk.lt, h.core.below hb, ⟨n, xs, own_below ho hb, hn⟩, h.hg, h.hp⟩
/-- A method of the core was called. -/
theorem CpuIn.grown {B N g p : Nat} {lv : Value} {s : Cpu} {k : Core} {w w' : World} (h : CpuIn B N g p lv s w) (hg : w.grownBy w' (some p)) (hk : CoreAt p k w') : CpuIn B N g p lv { s with core := k } w' := by
  obtain ⟨n, xs, ho, hn⟩ := h.log
  obtain ⟨_, hb⟩ := (show ∃ cs, Blk w p 209 cs from by obtain ⟨_, _, _, _, h⟩ := h.core; exact ⟨_, h.blk⟩)
  exact ⟨h.blk.grown hg (fun e => h.ne (by injection e)), hk, ⟨n, xs, ho.kept hg (own_block ho hb (by decide)), hn⟩, h.hg, h.hp⟩
theorem CpuIn.put {B N g p : Nat} {lv : Value} {s s' : Cpu} {w : World} (h : CpuIn B N g p lv s w) (i : Nat) (u : Value) (hc : s'.core = s.core) (hl : (cpuL s lv p).set i u = cpuL s' lv p) : CpuIn B N g p lv s' (w.setCell ⟨g, i, none⟩ u) := by
  obtain ⟨n, xs, ho, hn⟩ := h.log
  refine ⟨hl ▸ h.blk.set_ i u, hc ▸ h.core.far h.blk (by decide) (by decide) i u, ⟨n, xs, ?_, hn⟩, h.hg, h.hp⟩
  exact ho.kept (grown_set w (World.grownBy.refl w (some g)) i u) (own_block ho h.blk (by decide))
theorem CpuIn.nolog {B N g p : Nat} {lv : Value} {s : Cpu} {w : World} (h : CpuIn B N g p lv s w) : CpuIn B N g p (.slice none 0 0) s (w.setCell ⟨g, 8, none⟩ (.slice none 0 0)) :=
  ⟨h.blk.set_ 8 (.slice none 0 0), h.core.far h.blk (by decide) (by decide) 8 _, ⟨0, [], own_nil _ _ _ _, Nat.zero_le _⟩, h.hg, h.hp⟩
theorem CpuIn.set_level {B N g p : Nat} {lv : Value} {s : Cpu} {w : World} (h : CpuIn B N g p lv s w) (v : Bool) : CpuIn B N g p lv { s with latch := { s.latch with level := v } } (w.setCell ⟨g, 0, none⟩ (.bool v)) := h.put 0 _ rfl rfl
theorem CpuIn.set_armed {B N g p : Nat} {lv : Value} {s : Cpu} {w : World} (h : CpuIn B N g p lv s w) (v : Bool) : CpuIn B N g p lv { s with latch := { s.latch with armed := v } } (w.setCell ⟨g, 1, none⟩ (.bool v)) := h.put 1 _ rfl rfl
theorem CpuIn.set_set {B N g p : Nat} {lv : Value} {s : Cpu} {w : World} (h : CpuIn B N g p lv s w) (v : Bool) : CpuIn B N g p lv { s with latch := { s.latch with set := v } } (w.setCell ⟨g, 2, none⟩ (.bool v)) := h.put 2 _ rfl rfl
theorem CpuIn.set_phase {B N g p : Nat} {lv : Value} {s : Cpu} {w : World} (h : CpuIn B N g p lv s w) (v : Int) : CpuIn B N g p lv { s with arb := { s.arb with phase := v } } (w.setCell ⟨g, 3, none⟩ (.int .i64 v)) := h.put 3 _ rfl rfl
theorem CpuIn.set_count {B N g p : Nat} {lv : Value} {s : Cpu} {w : World} (h : CpuIn B N g p lv s w) (v : Int) : CpuIn B N g p lv { s with arb := { s.arb with count := v } } (w.setCell ⟨g, 4, none⟩ (.int .i64 v)) := h.put 4 _ rfl rfl
theorem CpuIn.set_kind {B N g p : Nat} {lv : Value} {s : Cpu} {w : World} (h : CpuIn B N g p lv s w) (v : Int) : CpuIn B N g p lv { s with kind := v } (w.setCell ⟨g, 5, none⟩ (.int .i64 v)) := h.put 5 _ rfl rfl
theorem CpuIn.set_mode {B N g p : Nat} {lv : Value} {s : Cpu} {w : World} (h : CpuIn B N g p lv s w) (v : Int) : CpuIn B N g p lv { s with mode := v } (w.setCell ⟨g, 6, none⟩ (.int .i64 v)) := h.put 6 _ rfl rfl
theorem CpuIn.set_row {B N g p : Nat} {lv : Value} {s : Cpu} {w : World} (h : CpuIn B N g p lv s w) (v : Int) : CpuIn B N g p lv { s with row := v } (w.setCell ⟨g, 7, none⟩ (.int .i64 v)) := h.put 7 _ rfl rfl
theorem CpuIn.set_a {B N g p : Nat} {lv : Value} {s : Cpu} {w : World} (h : CpuIn B N g p lv s w) (v : UInt8) : CpuIn B N g p lv { s with now := { s.now with a := v } } (w.setCell ⟨g, 9, none⟩ (.int .u8 (v.toNat : Int))) := h.put 9 _ rfl rfl
theorem CpuIn.set_b {B N g p : Nat} {lv : Value} {s : Cpu} {w : World} (h : CpuIn B N g p lv s w) (v : UInt8) : CpuIn B N g p lv { s with now := { s.now with b := v } } (w.setCell ⟨g, 10, none⟩ (.int .u8 (v.toNat : Int))) := h.put 10 _ rfl rfl
theorem CpuIn.set_dp {B N g p : Nat} {lv : Value} {s : Cpu} {w : World} (h : CpuIn B N g p lv s w) (v : UInt8) : CpuIn B N g p lv { s with now := { s.now with dp := v } } (w.setCell ⟨g, 11, none⟩ (.int .u8 (v.toNat : Int))) := h.put 11 _ rfl rfl
theorem CpuIn.set_cc {B N g p : Nat} {lv : Value} {s : Cpu} {w : World} (h : CpuIn B N g p lv s w) (v : UInt8) : CpuIn B N g p lv { s with now := { s.now with cc := v } } (w.setCell ⟨g, 12, none⟩ (.int .u8 (v.toNat : Int))) := h.put 12 _ rfl rfl
theorem CpuIn.set_x {B N g p : Nat} {lv : Value} {s : Cpu} {w : World} (h : CpuIn B N g p lv s w) (v : UInt16) : CpuIn B N g p lv { s with now := { s.now with x := v } } (w.setCell ⟨g, 13, none⟩ (.int .u16 (v.toNat : Int))) := h.put 13 _ rfl rfl
theorem CpuIn.set_y {B N g p : Nat} {lv : Value} {s : Cpu} {w : World} (h : CpuIn B N g p lv s w) (v : UInt16) : CpuIn B N g p lv { s with now := { s.now with y := v } } (w.setCell ⟨g, 14, none⟩ (.int .u16 (v.toNat : Int))) := h.put 14 _ rfl rfl
theorem CpuIn.set_u {B N g p : Nat} {lv : Value} {s : Cpu} {w : World} (h : CpuIn B N g p lv s w) (v : UInt16) : CpuIn B N g p lv { s with now := { s.now with u := v } } (w.setCell ⟨g, 15, none⟩ (.int .u16 (v.toNat : Int))) := h.put 15 _ rfl rfl
theorem CpuIn.set_s {B N g p : Nat} {lv : Value} {s : Cpu} {w : World} (h : CpuIn B N g p lv s w) (v : UInt16) : CpuIn B N g p lv { s with now := { s.now with s := v } } (w.setCell ⟨g, 16, none⟩ (.int .u16 (v.toNat : Int))) := h.put 16 _ rfl rfl
theorem CpuIn.set_pc {B N g p : Nat} {lv : Value} {s : Cpu} {w : World} (h : CpuIn B N g p lv s w) (v : UInt16) : CpuIn B N g p lv { s with now := { s.now with pc := v } } (w.setCell ⟨g, 17, none⟩ (.int .u16 (v.toNat : Int))) := h.put 17 _ rfl rfl
theorem cpu_facts {B N g p : Nat} {lv : Value} {s : Cpu} {w : World} (h : CpuIn B N g p lv s w) : (w.cell? ⟨g, 0, none⟩ = some (.bool s.latch.level) ∧ w.cell? ⟨g, 1, none⟩ = some (.bool s.latch.armed) ∧ w.cell? ⟨g, 2, none⟩ = some (.bool s.latch.set) ∧ w.cell? ⟨g, 3, none⟩ = some (.int .i64 s.arb.phase) ∧ w.cell? ⟨g, 4, none⟩ = some (.int .i64 s.arb.count) ∧ w.cell? ⟨g, 5, none⟩ = some (.int .i64 s.kind) ∧ w.cell? ⟨g, 6, none⟩ = some (.int .i64 s.mode) ∧ w.cell? ⟨g, 7, none⟩ = some (.int .i64 s.row) ∧ w.cell? ⟨g, 8, none⟩ = some (lv) ∧ w.cell? ⟨g, 9, none⟩ = some (.int .u8 (s.now.a.toNat : Int)) ∧ w.cell? ⟨g, 10, none⟩ = some (.int .u8 (s.now.b.toNat : Int)) ∧ w.cell? ⟨g, 11, none⟩ = some (.int .u8 (s.now.dp.toNat : Int)) ∧ w.cell? ⟨g, 12, none⟩ = some (.int .u8 (s.now.cc.toNat : Int)) ∧ w.cell? ⟨g, 13, none⟩ = some (.int .u16 (s.now.x.toNat : Int)) ∧ w.cell? ⟨g, 14, none⟩ = some (.int .u16 (s.now.y.toNat : Int)) ∧ w.cell? ⟨g, 15, none⟩ = some (.int .u16 (s.now.u.toNat : Int)) ∧ w.cell? ⟨g, 16, none⟩ = some (.int .u16 (s.now.s.toNat : Int)) ∧ w.cell? ⟨g, 17, none⟩ = some (.int .u16 (s.now.pc.toNat : Int)) ∧ w.cell? ⟨g, 18, none⟩ = some (.pointer (some ⟨p, 0, none⟩))) ∧ (∀ i, w.frozen? ⟨g, i, none⟩ = false) :=
  ⟨⟨h.blk.cell 0, h.blk.cell 1, h.blk.cell 2, h.blk.cell 3, h.blk.cell 4, h.blk.cell 5, h.blk.cell 6, h.blk.cell 7, h.blk.cell 8, h.blk.cell 9, h.blk.cell 10, h.blk.cell 11, h.blk.cell 12, h.blk.cell 13, h.blk.cell 14, h.blk.cell 15, h.blk.cell 16, h.blk.cell 17, h.blk.cell 18⟩, fun i => h.blk.frozen i⟩
end Go.Proofs.YtkdaphkpllgmbaaGreat
namespace Go.Proofs.YtkdaphkpllgmbaaGreat
open Go.RowKit Sp
set_option linter.unusedVariables false
set_option linter.unusedSimpArgs false
attribute [local go_sem] Sp.Latch.v Sp.Arb.v Sp.Arb.cells Sp.Pins.v Sp.Regs.v Sp.Regs.cells
theorem CpuIn.below_drew {B N g p : Nat} {lv : Value} {s : Cpu} {w : World} (h : CpuIn B N g p lv s w) : CpuIn B N g p lv s w.drew := h.below (Below.refl _ _).drew
theorem CpuIn.alloc {B N g p : Nat} {lv : Value} {s : Cpu} {w : World} (h : CpuIn B N g p lv s w) (o : Obj) : CpuIn B N g p lv s (w.alloc o) := h.below (below_alloc (Below.refl _ _) _)
theorem CpuIn.far {B N g p x : Nat} {lv : Value} {s : Cpu} {w : World} {t : TypeId} {cs : Array Value} (h : CpuIn B N g p lv s w) (hx : Blk w x t cs) (h1 : 97 ≠ t) (h2 : 209 ≠ t) (h3 : 219 ≠ t) (h4 : 5 ≠ t) (o : Nat) (u : Value) : CpuIn B N g p lv s (w.setCell ⟨x, o, none⟩ u) := by
  obtain ⟨n, xs, ho, hn⟩ := h.log
  exact ⟨h.blk.far (p := ⟨x, o, none⟩) (Blk.ne_ h.blk hx h1) u, h.core.far hx h2 h3 o u, ⟨n, xs, ho.kept (grown_set w (World.grownBy.refl w (some x)) o u) (own_block ho hx h4), hn⟩, h.hg, h.hp⟩
theorem cpu_far2 {B N g p x : Nat} {lv : Value} {s : Cpu} {w : World} {t : TypeId} {x0 x1 : Value} (h : CpuIn B N g p lv s w) (hx : LBlk w x t [x0, x1]) (h1 : 97 ≠ t) (h2 : 209 ≠ t) (h3 : 219 ≠ t) (h4 : 5 ≠ t) (o o' : Nat) (u u' : Value) : CpuIn B N g p lv s ((w.setCell ⟨x, o, none⟩ u).setCell ⟨x, o', none⟩ u') := (h.far hx h1 h2 h3 h4 o u).far (hx.set_ o u) h1 h2 h3 h4 o' u'
theorem CpuIn.of {B N g p : Nat} {lv : Value} {s : Cpu} {w : World} (h : ∃ s0, CpuIn B N g p lv s0 w ∧ s0 = s) : CpuIn B N g p lv s w := by obtain ⟨s0, h, rfl⟩ := h; exact h
set_option maxRecDepth 100000 in
set_option maxHeartbeats 4000000 in
theorem cpu_sample {B N g p : Nat} {lv : Value} {s : Cpu} (q : Sp.Pins) (w : World) (hC : CpuIn B N g p lv s w) :
    Calls Tryz.prog 42 #[.pointer (some ⟨g, 0, none⟩), q.v] w fun e w' => e = .returned (.tuple #[]) ∧ CpuIn B N g p lv { s with latch := sample s.latch q.nmi } w' ∧ w.grownBy w' (some g) := by
  have hC1 := hC.alloc (.cells #[.bool q.reset, .bool q.nmi, .bool q.firq, .bool q.irq, .bool q.halt, .bool q.req] 48)
  have hg1 := Lib.hid (grown_alloc w (World.grownBy.refl w (some g)) (.cells #[.bool q.reset, .bool q.nmi, .bool q.firq, .bool q.irq, .bool q.halt, .bool q.req] 48))
  have hB := Blk.newAt w 48 #[.bool q.reset, .bool q.nmi, .bool q.firq, .bool q.irq, .bool q.halt, .bool q.req] w.heap.size rfl
  have HS := Lib.hid (fun W => sample_t s.latch q.nmi W)
  obtain ⟨⟨l1, l2, l3⟩, hL⟩ : ∃ L, sample s.latch q.nmi = L := ⟨_, rfl⟩
  rw [hL] at HS
  have HL := Lib.hid hL
  have hC1h := Lib.hid hC1
  have F := cpu_facts hC
  have hlt := hC.lt
  clear hL hC hC1
  go_enter Tryz.func42, Tryz.ntmps42
  go_wp2
  go_region_with ((go_at_call 74; refine (HS.out _).mono ?_; rintro e wE ⟨rfl, hbE⟩; have hCE := CpuIn.below (hC1h.out.below_drew) hbE; have FE := cpu_facts hCE))
  all_goals
    have hgx := grown_then (grown_drew w hg1.out) (grown_of_below hbE (some g))
    have hltE := hCE.lt
    have hCEh := Lib.hid hCE
    clear hCE F
    go_wp2
    rw [HL.out]
    first | go_end0 | refine bodyPost_ret (results_none rfl _ _ _) rfl ?_
    refine ⟨rfl, CpuIn.of ?_, ?_⟩
    · apply Exists.intro
      refine ⟨?_, ?_⟩
      · (repeat (with_reducible first | exact hCEh.out | apply CpuIn.below_drew | apply CpuIn.alloc | apply CpuIn.set_level | apply CpuIn.set_armed | apply CpuIn.set_set | apply CpuIn.set_phase | apply CpuIn.set_count | apply CpuIn.set_kind | apply CpuIn.set_mode | apply CpuIn.set_row | apply CpuIn.set_a | apply CpuIn.set_b | apply CpuIn.set_dp | apply CpuIn.set_cc | apply CpuIn.set_x | apply CpuIn.set_y | apply CpuIn.set_u | apply CpuIn.set_s | apply CpuIn.set_pc | apply CpuIn.nolog))
      · rfl
    · (repeat (with_reducible first | exact World.grownBy.refl _ _ | assumption | apply grown_drew | apply grown_drewN | apply grown_alloc | apply grown_set))
/-- Of the blocks that were, those of X alone may have turned. -/
structure Fr (X : Nat → Prop) (w w' : World) : Prop where
  os : w'.os = w.os
  tape : w'.tape = w.tape
  output : w'.output = w.output
  size : w.heap.size ≤ w'.heap.size
  block : ∀ q, q < w.heap.size → ¬ X q → w'.heap[q]? = w.heap[q]?
theorem Fr.refl (X : Nat → Prop) (w : World) : Fr X w w := ⟨rfl, rfl, rfl, Nat.le_refl _, fun _ _ _ => rfl⟩
theorem Fr.grown {X : Nat → Prop} {w w' : World} {r : Option Nat} (h : w.grownBy w' r) (hr : ∀ q, r = some q → X q) : Fr X w w' := ⟨h.os, h.tape, h.output, h.size, fun q hq hx => h.block q hq (fun e => hx (hr q e.symm))⟩
theorem Fr.trans {X Y : Nat → Prop} {w w1 w2 : World} (h : Fr X w w1) (k : Fr Y w1 w2) (hy : ∀ q, Y q → X q ∨ w.heap.size ≤ q) : Fr X w w2 :=
  ⟨k.os.trans h.os, k.tape.trans h.tape, k.output.trans h.output, Nat.le_trans h.size k.size, fun q hq hx => by
    rw [k.block q (Nat.lt_of_lt_of_le hq h.size) (fun e => (hy q e).elim hx (fun hh => absurd hq (Nat.not_lt.2 hh)))]
    exact h.block q hq hx⟩
theorem Fr.below {X : Nat → Prop} {B : Nat} {w w' : World} (h : Fr X w w') (hX : ∀ q, X q → B ≤ q) (hB : B ≤ w.heap.size) : Below B w w' :=
  ⟨h.os, h.tape, h.output, h.size, fun q hq => h.block q (Nat.lt_of_lt_of_le hq hB) (fun e => absurd hq (Nat.not_lt.2 (hX q e)))⟩
set_option maxRecDepth 100000 in
set_option maxHeartbeats 4000000 in
theorem cpu_clear {B N g p : Nat} {lv : Value} {s : Cpu}  (w : World) (hC : CpuIn B N g p lv s w) :
    Calls Tryz.prog 75 #[.pointer (some ⟨g, 0, none⟩)] w fun e w' => e = .returned (.tuple #[]) ∧ CpuIn B N g p lv { s with latch := ⟨s.latch.level, false, false⟩, arb := ⟨0, 0⟩ } w' ∧ w.grownBy w' (some g) := by
  have hC0 := Lib.hid hC
  have F := cpu_facts hC
  have hlt := hC.lt
  clear hC
  go_enter Tryz.func75, Tryz.ntmps75
  go_wp2_with fail
  refine (resetL_t s.latch _).mono ?_
  rintro e wE ⟨rfl, hbE⟩
  have hCE := hC0.out.below hbE
  have hgx := grown_of_below hbE (some g)
  have FE := cpu_facts hCE
  have hltE := hCE.lt
  have hCEh := Lib.hid hCE
  clear F hCE hbE
  go_wp2
  first | go_end0 | refine bodyPost_ret (results_none rfl _ _ _) rfl ?_
  refine ⟨rfl, CpuIn.of ?_, ?_⟩
  · apply Exists.intro
    refine ⟨?_, ?_⟩
    · (repeat (with_reducible first | exact hCEh.out | apply CpuIn.below_drew | apply CpuIn.alloc | apply CpuIn.set_level | apply CpuIn.set_armed | apply CpuIn.set_set | apply CpuIn.set_phase | apply CpuIn.set_count | apply CpuIn.set_kind | apply CpuIn.set_mode | apply CpuIn.set_row | apply CpuIn.set_a | apply CpuIn.set_b | apply CpuIn.set_dp | apply CpuIn.set_cc | apply CpuIn.set_x | apply CpuIn.set_y | apply CpuIn.set_u | apply CpuIn.set_s | apply CpuIn.set_pc | apply CpuIn.nolog))
    · rfl
  · (repeat (with_reducible first | exact World.grownBy.refl _ _ | assumption | apply grown_drew | apply grown_drewN | apply grown_alloc | apply grown_set))
set_option maxRecDepth 100000 in
set_option maxHeartbeats 4000000 in
theorem cpu_Mode {B N g p : Nat} {lv : Value} {s : Cpu}  (w : World) (hC : CpuIn B N g p lv s w) :
    Calls Tryz.prog 22 #[.pointer (some ⟨g, 0, none⟩)] w fun e w' => e = .returned (.int .i64 s.mode) ∧ w = w' := by
  have F := cpu_facts hC
  clear hC
  go_enter Tryz.func22, Tryz.ntmps22
  go_wp2
  go_ret
  exact ⟨rfl, rfl⟩
set_option maxRecDepth 100000 in
set_option maxHeartbeats 4000000 in
theorem cpu_Regs {B N g p : Nat} {lv : Value} {s : Cpu}  (w : World) (hC : CpuIn B N g p lv s w) :
    Calls Tryz.prog 23 #[.pointer (some ⟨g, 0, none⟩)] w fun e w' => e = .returned s.now.v ∧ Below w.heap.size w w' := by
  have F := cpu_facts hC
  have hlt := hC.lt
  clear hC
  go_enter Tryz.func23, Tryz.ntmps23
  go_wp2
  refine bodyPost_ret (v := s.now.v) ?_ rfl ⟨rfl, below_alloc (Below.refl _ _) _⟩
  exact (results_cell_row rfl _ _ w.heap.size 39 s.now.cells (0, 0) _ rfl (heap_alloc_new w _) Tryz.underlying39 rfl (by kernel_rfl)).trans rfl
set_option maxRecDepth 100000 in
set_option maxHeartbeats 4000000 in
theorem cpu_begin_a {B N g p : Nat} {lv : Value} {s : Cpu} (k : Int) (w : World) (hC : CpuIn B N g p lv s w) (h1 : k ≠ 1) (h5 : k ≠ 5) :
    Calls Tryz.prog 47 #[.pointer (some ⟨g, 0, none⟩), .int .i64 k] w fun e w' => e = .returned (.tuple #[]) ∧ CpuIn B N g p (.slice none 0 0) { s with mode := 1, row := k, core := (s.core.begin_ k).1 } w' ∧ Fr (fun q => q = g ∨ q = p) w w' := by
  have hC0 := Lib.hid hC
  have F := cpu_facts hC
  have hlt := hC.lt
  have b1 : (k == 1) = false := beq_eq_false_iff_ne.mpr h1
  have b5 : (k == 5) = false := beq_eq_false_iff_ne.mpr h5
  clear h1 h5
  clear hC
  go_enter Tryz.func47, Tryz.ntmps47
  have hCm := (((hC0.out.set_mode 1).set_row k).nolog)
  have hgm := grown_set w (grown_set w (grown_set w (World.grownBy.refl w (some g)) 6 (.int .i64 1)) 7 (.int .i64 k)) 8 (.slice none 0 0)
  have hK := Lib.hid (begin_t k _ hCm.core)
  have hCmh := Lib.hid hCm
  have hgmh := Lib.hid hgm
  clear hCm hgm
  go_wp2_with fail
  refine hK.out.mono ?_
  rintro e w5 ⟨rfl, hC5, hg5⟩
  have hC6 := hCmh.out.grown hg5 hC5
  go_wp2_with fail
  first | go_end0 | refine bodyPost_ret (results_none rfl _ _ _) rfl ?_
  exact ⟨rfl, hC6, Fr.trans (Fr.grown hgmh.out (fun q e => .inl (by injection e with e; exact e.symm))) (Fr.grown (X := fun q => q = p) hg5 (fun q e => by injection e with e; exact e.symm)) (fun q e => .inl (.inr e))⟩
set_option maxRecDepth 100000 in
set_option maxHeartbeats 4000000 in
theorem cpu_begin_1 {B N g p : Nat} {lv : Value} {s : Cpu}  (w : World) (hC : CpuIn B N g p lv s w) :
    Calls Tryz.prog 47 #[.pointer (some ⟨g, 0, none⟩), .int .i64 1] w fun e w' => e = .returned (.tuple #[]) ∧ CpuIn B N g p (.slice none 0 0) { s with latch := { s.latch with set := false }, mode := 1, row := 1, core := (s.core.begin_ 1).1 } w' ∧ Fr (fun q => q = g ∨ q = p) w w' := by
  have hC0 := Lib.hid hC
  have F := cpu_facts hC
  have hlt := hC.lt
  clear hC
  go_enter Tryz.func47, Tryz.ntmps47
  go_wp2_with fail
  refine (take_t s.latch _).mono ?_
  rintro e wE ⟨rfl, hbE⟩
  have hCE := hC0.out.below hbE
  have hgE := grown_of_below hbE (some g)
  have FE := cpu_facts hCE
  have hltE := hCE.lt
  have hCf := ((hCE.set_level s.latch.level).set_armed s.latch.armed).set_set false
  have hgf := grown_set w (grown_set w (grown_set w hgE 0 (.bool s.latch.level)) 1 (.bool s.latch.armed)) 2 (.bool false)
  clear F hCE hbE hgE
  have hCm := (((hCf.set_mode 1).set_row 1).nolog)
  have hgm := grown_set w (grown_set w (grown_set w hgf 6 (.int .i64 1)) 7 (.int .i64 1)) 8 (.slice none 0 0)
  have hK := Lib.hid (begin_t 1 _ hCm.core)
  have hCmh := Lib.hid hCm
  have hgmh := Lib.hid hgm
  clear hCm hgm
  go_wp2_with fail
  refine hK.out.mono ?_
  rintro e w5 ⟨rfl, hC5, hg5⟩
  have hC6 := hCmh.out.grown hg5 hC5
  go_wp2_with fail
  first | go_end0 | refine bodyPost_ret (results_none rfl _ _ _) rfl ?_
  exact ⟨rfl, hC6, Fr.trans (Fr.grown hgmh.out (fun q e => .inl (by injection e with e; exact e.symm))) (Fr.grown (X := fun q => q = p) hg5 (fun q e => by injection e with e; exact e.symm)) (fun q e => .inl (.inr e))⟩
set_option maxRecDepth 100000 in
set_option maxHeartbeats 4000000 in
theorem cpu_begin_5 {B N g p : Nat} {lv : Value} {s : Cpu}  (w : World) (hC : CpuIn B N g p lv s w) :
    Calls Tryz.prog 47 #[.pointer (some ⟨g, 0, none⟩), .int .i64 5] w fun e w' => e = .returned (.tuple #[]) ∧ CpuIn B N g p (.slice none 0 0) { s with latch := { s.latch with set := false }, mode := 1, row := 5, core := (s.core.begin_ 5).1 } w' ∧ Fr (fun q => q = g ∨ q = p) w w' := by
  have hC0 := Lib.hid hC
  have F := cpu_facts hC
  have hlt := hC.lt
  clear hC
  go_enter Tryz.func47, Tryz.ntmps47
  go_wp2_with fail
  refine (take_t s.latch _).mono ?_
  rintro e wE ⟨rfl, hbE⟩
  have hCE := hC0.out.below hbE
  have hgE := grown_of_below hbE (some g)
  have FE := cpu_facts hCE
  have hltE := hCE.lt
  have hCf := ((hCE.set_level s.latch.level).set_armed s.latch.armed).set_set false
  have hgf := grown_set w (grown_set w (grown_set w hgE 0 (.bool s.latch.level)) 1 (.bool s.latch.armed)) 2 (.bool false)
  clear F hCE hbE hgE
  have hCm := (((hCf.set_mode 1).set_row 5).nolog)
  have hgm := grown_set w (grown_set w (grown_set w hgf 6 (.int .i64 1)) 7 (.int .i64 5)) 8 (.slice none 0 0)
  have hK := Lib.hid (begin_t 5 _ hCm.core)
  have hCmh := Lib.hid hCm
  have hgmh := Lib.hid hgm
  clear hCm hgm
  go_wp2_with fail
  refine hK.out.mono ?_
  rintro e w5 ⟨rfl, hC5, hg5⟩
  have hC6 := hCmh.out.grown hg5 hC5
  go_wp2_with fail
  first | go_end0 | refine bodyPost_ret (results_none rfl _ _ _) rfl ?_
  exact ⟨rfl, hC6, Fr.trans (Fr.grown hgmh.out (fun q e => .inl (by injection e with e; exact e.symm))) (Fr.grown (X := fun q => q = p) hg5 (fun q e => by injection e with e; exact e.symm)) (fun q e => .inl (.inr e))⟩
set_option maxRecDepth 100000 in
set_option maxHeartbeats 4000000 in
theorem cpu_begin {B N g p : Nat} {lv : Value} {s : Cpu} (k : Int) (w : World) (hC : CpuIn B N g p lv s w) :
    Calls Tryz.prog 47 #[.pointer (some ⟨g, 0, none⟩), .int .i64 k] w fun e w' => e = .returned (.tuple #[]) ∧ CpuIn B N g p (.slice none 0 0) (s.begin_ k) w' ∧ Fr (fun q => q = g ∨ q = p) w w' := by
  by_cases h1 : k = 1
  · subst h1; exact cpu_begin_1 w hC
  by_cases h5 : k = 5
  · subst h5; exact cpu_begin_5 w hC
  · rw [show s.begin_ k = { s with mode := 1, row := k, core := (s.core.begin_ k).1 } from by unfold Cpu.begin_; rw [if_neg (by omega)]]
    exact cpu_begin_a k w hC h1 h5
set_option maxRecDepth 100000 in
set_option maxHeartbeats 4000000 in
theorem cpu_over {B N g p : Nat} {lv : Value} {s : Cpu} (m : Int) (w : World) (hC : CpuIn B N g p lv s w) :
    Calls Tryz.prog 82 #[.pointer (some ⟨g, 0, none⟩), .int .i64 m] w fun e w' => e = .returned (.tuple #[]) ∧ CpuIn B N g p (.slice none 0 0) (s.over m) w' ∧ w.grownBy w' (some g) := by
  have hC0 := Lib.hid hC
  have hN := Lib.hid (Now_t _ hC.core)
  have F := cpu_facts hC
  have hlt := hC.lt
  have hm : s.over m = { s with mode := m, row := 0, now := s.core.r } := rfl
  have HM := Lib.hid hm
  obtain ⟨r, hr⟩ : ∃ r, s.core.r = r := ⟨_, rfl⟩
  rw [hr] at hN hm
  have HMM := Lib.hid hm
  clear hC hm hr HM
  go_enter Tryz.func82, Tryz.ntmps82
  go_wp2_with fail
  refine hN.out.mono ?_
  rintro e wE ⟨rfl, hbE⟩
  have hCE := hC0.out.below hbE
  have hgx := grown_of_below hbE (some g)
  have FE := cpu_facts hCE
  have hltE := hCE.lt
  have hCEh := Lib.hid hCE
  clear F hCE hbE hN
  go_wp2
  rw [HMM.out]
  first | go_end0 | refine bodyPost_ret (results_none rfl _ _ _) rfl ?_
  refine ⟨rfl, CpuIn.of ?_, ?_⟩
  · apply Exists.intro
    refine ⟨?_, ?_⟩
    · (repeat (with_reducible first | exact hCEh.out | apply CpuIn.below_drew | apply CpuIn.alloc | apply CpuIn.set_level | apply CpuIn.set_armed | apply CpuIn.set_set | apply CpuIn.set_phase | apply CpuIn.set_count | apply CpuIn.set_kind | apply CpuIn.set_mode | apply CpuIn.set_row | apply CpuIn.set_a | apply CpuIn.set_b | apply CpuIn.set_dp | apply CpuIn.set_cc | apply CpuIn.set_x | apply CpuIn.set_y | apply CpuIn.set_u | apply CpuIn.set_s | apply CpuIn.set_pc | apply CpuIn.nolog))
    · rfl
  · (repeat (with_reducible first | exact World.grownBy.refl _ _ | assumption | apply grown_drew | apply grown_drewN | apply grown_alloc | apply grown_set))
set_option maxRecDepth 100000 in
set_option maxHeartbeats 4000000 in
theorem cpu_whose {B N g p : Nat} {lv : Value} {s : Cpu} (k : Int) (q : Sp.Pins) (w : World) (hC : CpuIn B N g p lv s w) (hk : k = 0 ∨ k = 1) :
    Calls Tryz.prog 44 #[.pointer (some ⟨g, 0, none⟩), .int .i64 k, q.v] w fun e w' => e = .returned (.int .i64 (arbNext k s.arb q.req).2) ∧ CpuIn B N g p lv { s with arb := (arbNext k s.arb q.req).1 } w' ∧ w.grownBy w' (some g) := by
  have hC1 := hC.alloc (.cells #[.bool q.reset, .bool q.nmi, .bool q.firq, .bool q.irq, .bool q.halt, .bool q.req] 48)
  have hg1 := Lib.hid (grown_alloc w (World.grownBy.refl w (some g)) (.cells #[.bool q.reset, .bool q.nmi, .bool q.firq, .bool q.irq, .bool q.halt, .bool q.req] 48))
  have hPB := Blk.newAt w 48 #[.bool q.reset, .bool q.nmi, .bool q.firq, .bool q.irq, .bool q.halt, .bool q.req] w.heap.size rfl
  have HA := Lib.hid (fun W => arbNext_t k s.arb q.req W hk)
  obtain ⟨⟨⟨ph, cn⟩, who⟩, hX⟩ : ∃ X, arbNext k s.arb q.req = X := ⟨_, rfl⟩
  rw [hX] at HA
  have HX := Lib.hid hX
  have F := cpu_facts hC1
  have hlt := hC1.lt
  have hltw := hC.lt
  clear hC hX hk
  go_enter Tryz.func44, Tryz.ntmps44
  go_upto_region 1 with fail
  have b5 := hPB.cell 5
  simp only [List.getElem?_toArray, List.getElem?_cons_zero, List.getElem?_cons_succ] at b5
  have hltp := hPB.lt
  have hng : g ≠ w.heap.size := by omega
  generalize w.alloc (.cells #[.bool q.reset, .bool q.nmi, .bool q.firq, .bool q.irq, .bool q.halt, .bool q.req] 48) = w1 at *
  have hC1h := Lib.hid hC1
  have hBz := Lib.hid (Blk.newAt w1 67 #[.int .i64 0, .int .i64 0] w1.heap.size rfl)
  have hzl : w1.heap.size < (w1.alloc (.cells #[.int .i64 0, .int .i64 0] 67)).drew.heap.size := hBz.out.lt
  have hne1 : g ≠ w1.heap.size := by omega
  have hne2 : w1.heap.size ≠ g := by omega
  have hne3 : w.heap.size ≠ w1.heap.size := by omega
  have hne4 : w1.heap.size ≠ w.heap.size := by omega
  have hsw := hg1.out.size
  have hPBh := Lib.hid hPB
  clear hC1 hPB
  go_cut [7, 8] from 9 (fun s7 s8 wx => ∃ h, s7 = .pointer (some ⟨h, 0, none⟩) ∧ s8 = .int .i64 who ∧ LBlk wx h 67 [.int .i64 ph, .int .i64 cn] ∧ CpuIn B N g p lv s wx ∧ w.grownBy wx (some g))
  case first =>
    go_region_held3 (fun W => W.cell? ⟨g, 3, none⟩ = some (.int .i64 s.arb.phase) ∧ W.cell? ⟨g, 4, none⟩ = some (.int .i64 s.arb.count) ∧ W.cell? ⟨w.heap.size, 5, none⟩ = some (.bool q.req)) (first | with_reducible exact ⟨y3, y4, y5⟩ | (simp only [World.cell?_setCell_far, hne1, hne2, hne3, hne4, ne_eq, not_false_eq_true, y3, y4, y5, and_self]; done) | (go_keep; done) | assumption) (first | (go_at_call 76; refine (HA.out _).mono ?_; rintro e wE ⟨rfl, hbE⟩; have hCE : CpuIn B N g p lv s wE := CpuIn.below (by (repeat (with_reducible first | exact hC1h.out | apply CpuIn.below_drew | apply CpuIn.alloc))) hbE; have y3 := hCE.blk.cell 3; have y4 := hCE.blk.cell 4; have hPE : Blk wE w.heap.size 48 _ := Blk.below (by (repeat (with_reducible first | exact hPBh.out | apply Blk.drew | apply Blk.alloc))) hbE (by simp; omega); have y5 := hPE.cell 5; simp only [cpuL, List.getElem?_toArray, List.getElem?_cons_zero, List.getElem?_cons_succ] at y3 y4 y5; first | (have hBy : Blk wE w1.heap.size 67 #[.int .i64 0, .int .i64 0] := (by with_reducible exact Blk.below (hBz.out.drew) hbE hzl); have y6 := hBy.cell 0; have y7 := hBy.cell 1; simp only [List.getElem?_toArray, List.getElem?_cons_zero, List.getElem?_cons_succ] at y6 y7; have f6 := hBy.frozen 0; have f7 := hBy.frozen 1) | skip))
    all_goals
      have hgF : w.grownBy wE (some g) := grown_then (by (repeat (with_reducible first | exact hg1.out | apply grown_drew | apply grown_alloc))) (grown_of_below hbE (some g))
      have hsz : w1.heap.size ≤ wE.heap.size := by have := hbE.size; simp at this; omega
      go_wp2_with fail
      go_meet
      case rel =>
        first
        | (have h0 : LBlk wE w1.heap.size 67 [.int .i64 0, .int .i64 0] := hBy
           obtain ⟨n, xs, ho, hn⟩ := hCE.log
           exact ⟨w1.heap.size, rfl, rfl, (h0.set_ 0 _).set_ 1 _, cpu_far2 hCE h0 (by decide) (by decide) (by decide) (by decide) 0 1 _ _, grown_new w (grown_new w hgF w1.heap.size hsw 0 _) w1.heap.size hsw 1 _⟩)
        | exact ⟨wE.heap.size, rfl, rfl, Blk.newAt _ _ _ _ (by simp), hCE.alloc _, grown_alloc w hgF _⟩
  case rest =>
    obtain ⟨h, rfl, rfl, hB, hC2, hg2⟩ := hcut
    have hC2h := Lib.hid hC2
    have hg2h := Lib.hid hg2
    have c0 := hB.cell 0
    have c1 := hB.cell 1
    simp only [List.getElem?_cons_zero, List.getElem?_cons_succ] at c0 c1
    have F2 := cpu_facts hC2
    have hlt2 := hC2.lt
    clear F hC2 hg2
    go_wp2
    go_ret
    rw [HX.out]
    exact ⟨rfl, ((hC2h.out.set_phase ph).set_count cn), grown_set w (grown_set w hg2h.out 3 (.int .i64 ph)) 4 (.int .i64 cn)⟩
end Go.Proofs.YtkdaphkpllgmbaaGreat
namespace Go.Proofs.YtkdaphkpllgmbaaGreat
open Go.RowKit Sp
set_option linter.unusedVariables false
set_option linter.unusedSimpArgs false
attribute [local go_sem] Sp.Latch.v Sp.Pins.v
set_option maxRecDepth 100000 in
set_option maxHeartbeats 2000000 in
theorem prioRow_n (lv ar rs nm f i ha rq : Bool) (cc : UInt8) (w : World) :
    Calls Tryz.prog 48 #[(⟨lv, ar, true⟩ : Latch).v, (⟨rs, nm, f, i, ha, rq⟩ : Sp.Pins).v, .int .u8 (cc.toNat : Int)] w fun e w' => e = .returned (.int .i64 1) ∧ Below w.heap.size w w' := by
  go_enter Tryz.func48, Tryz.ntmps48
  go_wp2
  go_ret
  exact ⟨rfl, (by repeat (first | exact Below.refl _ _ | apply below_alloc))⟩
set_option maxRecDepth 100000 in
set_option maxHeartbeats 2000000 in
theorem prioRow_f (lv ar rs nm i ha rq : Bool) (cc : UInt8) (w : World) (h64 : hb cc 64 = false) :
    Calls Tryz.prog 48 #[(⟨lv, ar, false⟩ : Latch).v, (⟨rs, nm, true, i, ha, rq⟩ : Sp.Pins).v, .int .u8 (cc.toNat : Int)] w fun e w' => e = .returned (.int .i64 2) ∧ Below w.heap.size w w' := by
  have H64 := Lib.hid (fun t W g hg => Has_64 cc t W g hg)
  rw [h64] at H64
  clear h64
  go_enter Tryz.func48, Tryz.ntmps48
  go_wp2_with (first | (go_at_call 80; with_reducible refine (H64.out _ _ _ ?hg).mono ?_; (case hg => first | rfl | (simp; done)); rintro e w1 ⟨rfl, rfl⟩))
  go_ret
  exact ⟨rfl, (by repeat (first | exact Below.refl _ _ | apply below_alloc))⟩
set_option maxRecDepth 100000 in
set_option maxHeartbeats 2000000 in
theorem prioRow_fi (lv ar rs nm ha rq : Bool) (cc : UInt8) (w : World) (h64 : hb cc 64 = true) (h16 : hb cc 16 = false) :
    Calls Tryz.prog 48 #[(⟨lv, ar, false⟩ : Latch).v, (⟨rs, nm, true, true, ha, rq⟩ : Sp.Pins).v, .int .u8 (cc.toNat : Int)] w fun e w' => e = .returned (.int .i64 3) ∧ Below w.heap.size w w' := by
  have H64 := Lib.hid (fun t W g hg => Has_64 cc t W g hg)
  rw [h64] at H64
  have H16 := Lib.hid (fun t W g hg => Has_16 cc t W g hg)
  rw [h16] at H16
  clear h64
  clear h16
  go_enter Tryz.func48, Tryz.ntmps48
  go_wp2_with (first | (go_at_call 80; with_reducible refine (H64.out _ _ _ ?hg).mono ?_; (case hg => first | rfl | (simp; done)); rintro e w1 ⟨rfl, rfl⟩) | (go_at_call 80; with_reducible refine (H16.out _ _ _ ?hg).mono ?_; (case hg => first | rfl | (simp; done)); rintro e w1 ⟨rfl, rfl⟩))
  go_ret
  exact ⟨rfl, (by repeat (first | exact Below.refl _ _ | apply below_alloc))⟩
set_option maxRecDepth 100000 in
set_option maxHeartbeats 2000000 in
theorem prioRow_fx (lv ar rs nm ha rq : Bool) (cc : UInt8) (w : World) (h64 : hb cc 64 = true) (h16 : hb cc 16 = true) :
    Calls Tryz.prog 48 #[(⟨lv, ar, false⟩ : Latch).v, (⟨rs, nm, true, true, ha, rq⟩ : Sp.Pins).v, .int .u8 (cc.toNat : Int)] w fun e w' => e = .returned (.int .i64 0) ∧ Below w.heap.size w w' := by
  have H64 := Lib.hid (fun t W g hg => Has_64 cc t W g hg)
  rw [h64] at H64
  have H16 := Lib.hid (fun t W g hg => Has_16 cc t W g hg)
  rw [h16] at H16
  clear h64
  clear h16
  go_enter Tryz.func48, Tryz.ntmps48
  go_wp2_with (first | (go_at_call 80; with_reducible refine (H64.out _ _ _ ?hg).mono ?_; (case hg => first | rfl | (simp; done)); rintro e w1 ⟨rfl, rfl⟩) | (go_at_call 80; with_reducible refine (H16.out _ _ _ ?hg).mono ?_; (case hg => first | rfl | (simp; done)); rintro e w1 ⟨rfl, rfl⟩))
  go_ret
  exact ⟨rfl, (by repeat (first | exact Below.refl _ _ | apply below_alloc))⟩
set_option maxRecDepth 100000 in
set_option maxHeartbeats 2000000 in
theorem prioRow_fn (lv ar rs nm ha rq : Bool) (cc : UInt8) (w : World) (h64 : hb cc 64 = true) :
    Calls Tryz.prog 48 #[(⟨lv, ar, false⟩ : Latch).v, (⟨rs, nm, true, false, ha, rq⟩ : Sp.Pins).v, .int .u8 (cc.toNat : Int)] w fun e w' => e = .returned (.int .i64 0) ∧ Below w.heap.size w w' := by
  have H64 := Lib.hid (fun t W g hg => Has_64 cc t W g hg)
  rw [h64] at H64
  clear h64
  go_enter Tryz.func48, Tryz.ntmps48
  go_wp2_with (first | (go_at_call 80; with_reducible refine (H64.out _ _ _ ?hg).mono ?_; (case hg => first | rfl | (simp; done)); rintro e w1 ⟨rfl, rfl⟩))
  go_ret
  exact ⟨rfl, (by repeat (first | exact Below.refl _ _ | apply below_alloc))⟩
set_option maxRecDepth 100000 in
set_option maxHeartbeats 2000000 in
theorem prioRow_i (lv ar rs nm ha rq : Bool) (cc : UInt8) (w : World) (h16 : hb cc 16 = false) :
    Calls Tryz.prog 48 #[(⟨lv, ar, false⟩ : Latch).v, (⟨rs, nm, false, true, ha, rq⟩ : Sp.Pins).v, .int .u8 (cc.toNat : Int)] w fun e w' => e = .returned (.int .i64 3) ∧ Below w.heap.size w w' := by
  have H16 := Lib.hid (fun t W g hg => Has_16 cc t W g hg)
  rw [h16] at H16
  clear h16
  go_enter Tryz.func48, Tryz.ntmps48
  go_wp2_with (first | (go_at_call 80; with_reducible refine (H16.out _ _ _ ?hg).mono ?_; (case hg => first | rfl | (simp; done)); rintro e w1 ⟨rfl, rfl⟩))
  go_ret
  exact ⟨rfl, (by repeat (first | exact Below.refl _ _ | apply below_alloc))⟩
set_option maxRecDepth 100000 in
set_option maxHeartbeats 2000000 in
theorem prioRow_ix (lv ar rs nm ha rq : Bool) (cc : UInt8) (w : World) (h16 : hb cc 16 = true) :
    Calls Tryz.prog 48 #[(⟨lv, ar, false⟩ : Latch).v, (⟨rs, nm, false, true, ha, rq⟩ : Sp.Pins).v, .int .u8 (cc.toNat : Int)] w fun e w' => e = .returned (.int .i64 0) ∧ Below w.heap.size w w' := by
  have H16 := Lib.hid (fun t W g hg => Has_16 cc t W g hg)
  rw [h16] at H16
  clear h16
  go_enter Tryz.func48, Tryz.ntmps48
  go_wp2_with (first | (go_at_call 80; with_reducible refine (H16.out _ _ _ ?hg).mono ?_; (case hg => first | rfl | (simp; done)); rintro e w1 ⟨rfl, rfl⟩))
  go_ret
  exact ⟨rfl, (by repeat (first | exact Below.refl _ _ | apply below_alloc))⟩
set_option maxRecDepth 100000 in
set_option maxHeartbeats 2000000 in
theorem prioRow_o (lv ar rs nm ha rq : Bool) (cc : UInt8) (w : World) :
    Calls Tryz.prog 48 #[(⟨lv, ar, false⟩ : Latch).v, (⟨rs, nm, false, false, ha, rq⟩ : Sp.Pins).v, .int .u8 (cc.toNat : Int)] w fun e w' => e = .returned (.int .i64 0) ∧ Below w.heap.size w w' := by
  go_enter Tryz.func48, Tryz.ntmps48
  go_wp2
  go_ret
  exact ⟨rfl, (by repeat (first | exact Below.refl _ _ | apply below_alloc))⟩
theorem prioRow_t (l : Latch) (q : Sp.Pins) (cc : UInt8) (w : World) :
    Calls Tryz.prog 48 #[l.v, q.v, .int .u8 (cc.toNat : Int)] w fun e w' => e = .returned (.int .i64 (prioRow l q cc)) ∧ Below w.heap.size w w' := by
  obtain ⟨lv, ar, st⟩ := l
  obtain ⟨rs, nm, f, i, ha, rq⟩ := q
  cases st
  · cases f
    · cases i
      · exact prioRow_o lv ar rs nm ha rq cc w
      · cases h16 : hb cc 16
        · rw [show prioRow ⟨lv, ar, false⟩ ⟨rs, nm, false, true, ha, rq⟩ cc = 3 from by simp [prioRow, h16]]; exact prioRow_i lv ar rs nm ha rq cc w h16
        · rw [show prioRow ⟨lv, ar, false⟩ ⟨rs, nm, false, true, ha, rq⟩ cc = 0 from by simp [prioRow, h16]]; exact prioRow_ix lv ar rs nm ha rq cc w h16
    · cases h64 : hb cc 64
      · rw [show prioRow ⟨lv, ar, false⟩ ⟨rs, nm, true, i, ha, rq⟩ cc = 2 from by simp [prioRow, h64]]; exact prioRow_f lv ar rs nm i ha rq cc w h64
      · cases i
        · rw [show prioRow ⟨lv, ar, false⟩ ⟨rs, nm, true, false, ha, rq⟩ cc = 0 from by simp [prioRow, h64]]; exact prioRow_fn lv ar rs nm ha rq cc w h64
        · cases h16 : hb cc 16
          · rw [show prioRow ⟨lv, ar, false⟩ ⟨rs, nm, true, true, ha, rq⟩ cc = 3 from by simp [prioRow, h64, h16]]; exact prioRow_fi lv ar rs nm ha rq cc w h64 h16
          · rw [show prioRow ⟨lv, ar, false⟩ ⟨rs, nm, true, true, ha, rq⟩ cc = 0 from by simp [prioRow, h64, h16]]; exact prioRow_fx lv ar rs nm ha rq cc w h64 h16
  · exact prioRow_n lv ar rs nm f i ha rq cc w
set_option maxRecDepth 100000 in
set_option maxHeartbeats 2000000 in
theorem wakes_t (l : Latch) (q : Sp.Pins) (w : World) :
    Calls Tryz.prog 77 #[l.v, q.v] w fun e w' => e = .returned (.bool (wakes l q)) ∧ Below w.heap.size w w' := by
  obtain ⟨lv, ar, st⟩ := l
  obtain ⟨rs, nm, f, i, ha, rq⟩ := q
  cases st <;> cases f <;> cases i
  all_goals
    go_enter Tryz.func77, Tryz.ntmps77
    go_wp2
    go_ret
    exact ⟨rfl, (by repeat (first | exact Below.refl _ _ | apply below_alloc))⟩
theorem prioBehind_e (l : Latch) (q : Sp.Pins) (cc : UInt8) : prioBehind l q cc = (if prioRow l q cc = 0 then (0, false) else (prioRow l q cc + 4, true)) := rfl
set_option maxRecDepth 100000 in
set_option maxHeartbeats 2000000 in
theorem behindP_t (l : Latch) (q : Sp.Pins) (cc : UInt8) (w : World) :
    Calls Tryz.prog 78 #[l.v, q.v, .int .u8 (cc.toNat : Int)] w fun e w' => e = .returned (.tuple #[.int .i64 (prioBehind l q cc).1, .bool (prioBehind l q cc).2]) ∧ Below w.heap.size w w' := by
  have hR := Lib.hid (fun W => prioRow_t l q cc W)
  have hB := prioBehind_e l q cc
  have hrange : prioRow l q cc = 0 ∨ prioRow l q cc = 1 ∨ prioRow l q cc = 2 ∨ prioRow l q cc = 3 := by
    unfold prioRow
    repeat' split
    all_goals simp
  rw [hB]
  clear hB
  obtain ⟨lv, ar, st⟩ := l
  obtain ⟨rs, nm, f, i, ha, rq⟩ := q
  rcases hrange with h | h | h | h
  all_goals
    rw [h] at hR ⊢
    clear h
    go_enter Tryz.func78, Tryz.ntmps78
    go_wp2_with ((go_at_call 48; refine (hR.out _).mono ?_; rintro e w1 ⟨rfl, hb1⟩))
    go_ret2
    exact ⟨rfl, below_then (below_alloc (below_alloc (Below.refl _ _) _) _) hb1⟩
end Go.Proofs.YtkdaphkpllgmbaaGreat
namespace Go.Proofs.YtkdaphkpllgmbaaGreat
open Go.RowKit
def freshCells (rom : Int) : Array Value := (List.replicate 256 (Value.slice none 0 0) ++ [Value.int .i64 rom]).toArray
theorem freshCells_at (rom : Int) (i : Nat) (hi : i < 256) : (freshCells rom)[i]? = some (.slice none 0 0) := by
  simp [freshCells, List.getElem?_append, hi, -List.reduceReplicate]
theorem freshCells_rom (rom : Int) : (freshCells rom)[256]? = some (.int .i64 rom) := by
  simp [freshCells, -List.reduceReplicate]
theorem freshCells_size (rom : Int) : (freshCells rom).size = 257 := by simp [freshCells, -List.reduceReplicate]
theorem zero_fresh (rom : Int) : Tryz.zeroCells91.setIfInBounds 256 (Value.int .i64 rom) = freshCells rom := by kernel_rfl
theorem RamAt.new (rom : Int) (w : World) : RamAt w.heap.size w.heap.size (fun _ => 0) rom (fun _ => none) (freshCells rom) (w.alloc (.cells (freshCells rom) 91)) :=
  ⟨Nat.le_refl _, Blk.new w _ _, freshCells_size rom, freshCells_rom rom, fun i hi => ⟨256, Nat.le_refl _, freshCells_at rom i hi⟩, fun _ _ _ _ _ => rfl, fun _ _ _ e => (by cases e), fun _ _ _ _ _ e => (by cases e)⟩
set_option maxRecDepth 100000 in
set_option maxHeartbeats 4000000 in
/-- New memory, the bytes of which fit. -/
theorem New_any (l : List UInt8) (A : Option Addr) (n c : Nat) (rom : Int) (w : World) (hr : Reads w w.heap.size 1 A n (bytesV l)) (hn : n ≤ 65536) (h0 : 0 ≤ rom) (h1 : rom ≤ 65536) :
    Calls Tryz.prog 40 #[.slice A n c, .int .i64 rom] w fun e w' => e = .returned (.tuple #[.pointer (some ⟨w.heap.size, 0, none⟩), .int .i64 0]) ∧ (∃ pb cs, RamAt w.heap.size w.heap.size (updL (fun _ => 0) 0 l) rom pb cs w') ∧ Below w.heap.size w w' := by
  have hln : l.length = n := by simpa [bytesV] using hr.1
  have hW := RamAt.new rom w
  have hL := Load_any 0 l A n c (w.alloc (.cells (freshCells rom) 91)) hW (by simp) (hr.below (below_alloc (Below.refl _ _) _)) (by omega)
  rw [show ((0 : Nat) : Int) = 0 from rfl, ← zero_fresh] at hL
  have HL := Lib.hid hL
  clear hL hW hr
  go_enter Tryz.func40, Tryz.ntmps40
  go_wp2_with fail
  refine HL.out.mono ?_
  rintro e w1 ⟨rfl, hst⟩
  go_wp2
  go_ret2
  obtain ⟨pb, cs, hR, _⟩ := hst.ram
  exact ⟨rfl, ⟨pb, cs, hR⟩, (below_alloc (Below.refl _ _) _).trans hst.below⟩
set_option maxRecDepth 100000 in
set_option maxHeartbeats 4000000 in
/-- There may be no such end. -/
theorem New_arg (A : Option Addr) (n c : Nat) (rom : Int) (w : World) (h : rom < 0 ∨ 65536 < rom) :
    Calls Tryz.prog 40 #[.slice A n c, .int .i64 rom] w fun e w' => e = .returned (.tuple #[.pointer none, .int .i64 10]) ∧ w = w' := by
  rcases h with h | h
  all_goals
    go_enter Tryz.func40, Tryz.ntmps40
    go_wp2
    go_ret2
    exact ⟨rfl, rfl⟩
set_option maxRecDepth 100000 in
set_option maxHeartbeats 4000000 in
/-- Bytes that do not fit. -/
theorem Load_bad (g : Nat) (a : Int) (A : Option Addr) (n c : Nat) (w : World) (h : a < 0 ∨ 65536 < a ∨ (0 ≤ a ∧ a ≤ 65536 ∧ 65536 - a < (n : Int))) (_hn : n ≤ 9223372036854775807) :
    Calls Tryz.prog 68 #[.pointer (some ⟨g, 0, none⟩), .int .i64 a, .slice A n c] w fun e w' => e = .returned (.int .i64 11) ∧ w = w' := by
  rcases h with h | h | ⟨h1, h2, h⟩
  all_goals
    go_enter Tryz.func68, Tryz.ntmps68
    go_wp2
    go_ret
    exact ⟨rfl, rfl⟩
set_option maxRecDepth 100000 in
set_option maxHeartbeats 4000000 in
theorem New_size (A : Option Addr) (n c : Nat) (rom : Int) (w : World) (hn : 65536 < n) (hn2 : n ≤ 9223372036854775807) (h0 : 0 ≤ rom) (h1 : rom ≤ 65536) :
    Calls Tryz.prog 40 #[.slice A n c, .int .i64 rom] w fun e w' => e = .returned (.tuple #[.pointer none, .int .i64 12]) ∧ Below w.heap.size w w' := by
  have HL := Lib.hid (Load_bad w.heap.size 0 A n c (w.alloc (.cells (Tryz.zeroCells91.setIfInBounds 256 (Value.int .i64 rom)) 91)) (.inr (.inr ⟨by omega, by omega, by omega⟩)) hn2)
  go_enter Tryz.func40, Tryz.ntmps40
  go_wp2_with fail
  refine HL.out.mono ?_
  rintro e w1 ⟨rfl, rfl⟩
  go_wp2
  go_ret2
  exact ⟨rfl, below_alloc (Below.refl _ _) _⟩
end Go.Proofs.YtkdaphkpllgmbaaGreat

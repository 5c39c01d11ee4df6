/-
  Contract of the core's finish.
  Contract of core.Tick.
-/
import Derived.Test.YtkdaphkpllgmbaaGreatM31
import Derived.Test.YtkdaphkpllgmbaaGreatM07
import Derived.Deep.CutBlock
import Derived.Test.YtkdaphkpllgmbaaGreatM27
namespace Go.Proofs.YtkdaphkpllgmbaaGreat
open Go.RowKit Sp
set_option linter.unusedVariables false
set_option linter.unusedSimpArgs false
def Sp.Sign.cells (s : Sign) : Array Value := #[.bool s.lic, .bool s.avma, .int .i64 s.end_, .bool s.loads]
def Sp.Sign.v (s : Sign) : Value := .agg s.cells
set_option maxRecDepth 100000 in
set_option maxHeartbeats 1000000 in
theorem finish_sync {p : Nat} {s : Core}  (w : World) (hC : CoreAt p s w) (hk : s.kind = 0) (hop : s.e.op = 40) :
    Calls Tryz.prog 120 #[.pointer (some ⟨p, 0, none⟩)] w fun e w' => e = .returned (⟨false, false, 2, false⟩ : Sign).v ∧ CoreAt p (s) w' ∧ w.grownBy w' (some p) := by
  have hC0 := Lib.hid hC
  have hlt := hC.lt
  obtain ⟨ring, qa, lA, lc, hI⟩ := id hC; have F := core_facts hI
  rw [hk, hop] at F
  clear hI hC hk hop
  go_enter Tryz.func120, Tryz.ntmps120
  go_wp2
  refine bodyPost_ret (v := (⟨false, false, 2, false⟩ : Sign).v) ?_ rfl ⟨rfl, CoreAt.of ?_, ?_⟩
  · exact (results_cell_row rfl _ _ w.heap.size 144 (⟨false, false, 2, false⟩ : Sign).cells (0, 0) _ rfl (Blk.alloc (Blk.newAt3 _ _ _ w.heap.size (by simp)) _) Tryz.underlying144 rfl (by kernel_rfl)).trans rfl
  · apply Exists.intro
    refine ⟨?_, ?_⟩
    · (repeat (with_reducible first | exact hC0.out | apply CoreAt.drew | apply CoreAt.drewN | apply CoreAt.alloc | apply CoreAt.set_a | apply CoreAt.set_b | apply CoreAt.set_dp | apply CoreAt.set_cc | apply CoreAt.set_x | apply CoreAt.set_y | apply CoreAt.set_u | apply CoreAt.set_s | apply CoreAt.set_pc | apply CoreAt.set_kind | apply CoreAt.set_page | apply CoreAt.set_op | apply CoreAt.set_mode | apply CoreAt.set_reg | apply CoreAt.set_post | apply CoreAt.set_args | apply CoreAt.set_value | apply CoreAt.set_ea | apply CoreAt.set_word | apply CoreAt.set_ptr | apply CoreAt.set_stack | apply CoreAt.set_pushed | apply CoreAt.set_then_ | apply CoreAt.set_vector | apply CoreAt.set_whole | apply CoreAt.set_loads))
    · rfl
  · (repeat (with_reducible first | exact World.grownBy.refl _ _ | assumption | apply grown_drew | apply grown_drewN | apply grown_alloc | apply grown_set))
set_option maxRecDepth 100000 in
set_option maxHeartbeats 1000000 in
theorem finish_cwai {p : Nat} {s : Core}  (w : World) (hC : CoreAt p s w) (hk : s.kind = 0) (hop : s.e.op = 41) :
    Calls Tryz.prog 120 #[.pointer (some ⟨p, 0, none⟩)] w fun e w' => e = .returned (⟨false, false, 3, false⟩ : Sign).v ∧ CoreAt p (s) w' ∧ w.grownBy w' (some p) := by
  have hC0 := Lib.hid hC
  have hlt := hC.lt
  obtain ⟨ring, qa, lA, lc, hI⟩ := id hC; have F := core_facts hI
  rw [hk, hop] at F
  clear hI hC hk hop
  go_enter Tryz.func120, Tryz.ntmps120
  go_wp2
  refine bodyPost_ret (v := (⟨false, false, 3, false⟩ : Sign).v) ?_ rfl ⟨rfl, CoreAt.of ?_, ?_⟩
  · exact (results_cell_row rfl _ _ w.heap.size 144 (⟨false, false, 3, false⟩ : Sign).cells (0, 0) _ rfl (Blk.alloc (Blk.newAt3 _ _ _ w.heap.size (by simp)) _) Tryz.underlying144 rfl (by kernel_rfl)).trans rfl
  · apply Exists.intro
    refine ⟨?_, ?_⟩
    · (repeat (with_reducible first | exact hC0.out | apply CoreAt.drew | apply CoreAt.drewN | apply CoreAt.alloc | apply CoreAt.set_a | apply CoreAt.set_b | apply CoreAt.set_dp | apply CoreAt.set_cc | apply CoreAt.set_x | apply CoreAt.set_y | apply CoreAt.set_u | apply CoreAt.set_s | apply CoreAt.set_pc | apply CoreAt.set_kind | apply CoreAt.set_page | apply CoreAt.set_op | apply CoreAt.set_mode | apply CoreAt.set_reg | apply CoreAt.set_post | apply CoreAt.set_args | apply CoreAt.set_value | apply CoreAt.set_ea | apply CoreAt.set_word | apply CoreAt.set_ptr | apply CoreAt.set_stack | apply CoreAt.set_pushed | apply CoreAt.set_then_ | apply CoreAt.set_vector | apply CoreAt.set_whole | apply CoreAt.set_loads))
    · rfl
  · (repeat (with_reducible first | exact World.grownBy.refl _ _ | assumption | apply grown_drew | apply grown_drewN | apply grown_alloc | apply grown_set))
set_option maxRecDepth 100000 in
set_option maxHeartbeats 1000000 in
theorem finish_rst {p : Nat} {s : Core}  (w : World) (hC : CoreAt p s w) (hk : s.kind = 4) :
    Calls Tryz.prog 120 #[.pointer (some ⟨p, 0, none⟩)] w fun e w' => e = .returned (⟨true, true, 1, false⟩ : Sign).v ∧ CoreAt p ({ s with r := { s.r with cc := s.en.then_, dp := 0 } }) w' ∧ w.grownBy w' (some p) := by
  have hC0 := Lib.hid hC
  have hlt := hC.lt
  obtain ⟨ring, qa, lA, lc, hI⟩ := id hC; have F := core_facts hI
  rw [hk] at F
  clear hI hC hk
  go_enter Tryz.func120, Tryz.ntmps120
  go_wp2
  refine bodyPost_ret (v := (⟨true, true, 1, false⟩ : Sign).v) ?_ rfl ⟨rfl, CoreAt.of ?_, ?_⟩
  · exact (results_cell_row rfl _ _ w.heap.size 144 (⟨true, true, 1, false⟩ : Sign).cells (0, 0) _ rfl (Blk.alloc (Blk.newAt3 _ _ _ w.heap.size (by simp)) _) Tryz.underlying144 rfl (by kernel_rfl)).trans rfl
  · apply Exists.intro
    refine ⟨?_, ?_⟩
    · exact (((hC0.out.set_cc s.en.then_).set_dp 0).alloc _).alloc _
    · rfl
  · (repeat (with_reducible first | exact World.grownBy.refl _ _ | assumption | apply grown_drew | apply grown_drewN | apply grown_alloc | apply grown_set))
set_option maxRecDepth 100000 in
set_option maxHeartbeats 1000000 in
theorem finish_row {p : Nat} {s : Core}  (w : World) (hC : CoreAt p s w) (h0 : s.kind ≠ 0) (h4 : s.kind ≠ 4) :
    Calls Tryz.prog 120 #[.pointer (some ⟨p, 0, none⟩)] w fun e w' => e = .returned (⟨true, true, 1, false⟩ : Sign).v ∧ CoreAt p ({ s with r := { s.r with cc := s.en.then_ } }) w' ∧ w.grownBy w' (some p) := by
  have hC0 := Lib.hid hC
  have hlt := hC.lt
  have b0 : (s.kind != 0) = true := bne_iff_ne.mpr h0
  have b4 : (s.kind == 4) = false := beq_eq_false_iff_ne.mpr h4
  obtain ⟨ring, qa, lA, lc, hI⟩ := id hC; have F := core_facts hI
  clear hI hC h0 h4
  go_enter Tryz.func120, Tryz.ntmps120
  go_wp2
  refine bodyPost_ret (v := (⟨true, true, 1, false⟩ : Sign).v) ?_ rfl ⟨rfl, CoreAt.of ?_, ?_⟩
  · exact (results_cell_row rfl _ _ w.heap.size 144 (⟨true, true, 1, false⟩ : Sign).cells (0, 0) _ rfl (Blk.alloc (Blk.newAt3 _ _ _ w.heap.size (by simp)) _) Tryz.underlying144 rfl (by kernel_rfl)).trans rfl
  · apply Exists.intro
    refine ⟨?_, ?_⟩
    · (repeat (with_reducible first | exact hC0.out | apply CoreAt.drew | apply CoreAt.drewN | apply CoreAt.alloc | apply CoreAt.set_a | apply CoreAt.set_b | apply CoreAt.set_dp | apply CoreAt.set_cc | apply CoreAt.set_x | apply CoreAt.set_y | apply CoreAt.set_u | apply CoreAt.set_s | apply CoreAt.set_pc | apply CoreAt.set_kind | apply CoreAt.set_page | apply CoreAt.set_op | apply CoreAt.set_mode | apply CoreAt.set_reg | apply CoreAt.set_post | apply CoreAt.set_args | apply CoreAt.set_value | apply CoreAt.set_ea | apply CoreAt.set_word | apply CoreAt.set_ptr | apply CoreAt.set_stack | apply CoreAt.set_pushed | apply CoreAt.set_then_ | apply CoreAt.set_vector | apply CoreAt.set_whole | apply CoreAt.set_loads))
    · rfl
  · (repeat (with_reducible first | exact World.grownBy.refl _ _ | assumption | apply grown_drew | apply grown_drewN | apply grown_alloc | apply grown_set))
set_option maxRecDepth 100000 in
set_option maxHeartbeats 1000000 in
theorem finish_last {p : Nat} {s : Core}  (w : World) (hC : CoreAt p s w) (hk : s.kind = 0) (h40 : s.e.op ≠ 40) (h41 : s.e.op ≠ 41) :
    Calls Tryz.prog 120 #[.pointer (some ⟨p, 0, none⟩)] w fun e w' => e = .returned (⟨true, true, 1, s.last.loads⟩ : Sign).v ∧ CoreAt p s.last w' ∧ w.grownBy w' (some p) := by
  have hlt := hC.lt
  have b40 : (s.e.op == 40) = false := beq_eq_false_iff_ne.mpr h40
  have b41 : (s.e.op == 41) = false := beq_eq_false_iff_ne.mpr h41
  have hC0 := Lib.hid ((hC.alloc (.cells #[.bool false, .bool false, .int .i64 0, .bool false] 144)).alloc (.cells #[.bool true, .bool true, .int .i64 1, .bool false] 144))
  have hg0 := grown_alloc w (grown_alloc w (World.grownBy.refl w (some p)) (.cells #[.bool false, .bool false, .int .i64 0, .bool false] 144)) (.cells #[.bool true, .bool true, .int .i64 1, .bool false] 144)
  have hA := Blk.alloc (Blk.newAt3 w 144 #[.bool false, .bool false, .int .i64 0, .bool false] w.heap.size rfl) (.cells #[.bool true, .bool true, .int .i64 1, .bool false] 144)
  have hB := Blk.newAt3 (w.alloc (.cells #[.bool false, .bool false, .int .i64 0, .bool false] 144)) 144 #[.bool true, .bool true, .int .i64 1, .bool false] (w.heap.size + 1) (by simp)
  obtain ⟨ring, qa, lA, lc, hI⟩ := id hC; have F := core_facts hI
  rw [hk] at F
  clear hI hC hk h40 h41
  go_enter Tryz.func120, Tryz.ntmps120
  go_wp2_with fail
  refine (last_t _ hC0.out).mono ?_
  rintro e w2 ⟨rfl, hC2, hgS⟩
  have hA2 := hA.grown hgS (fun e => by injection e with e; omega)
  have hB2 := hB.grown hgS (fun e => by injection e with e; omega)
  have hg2 := grown_then hg0 hgS
  have a0 := hA2.cell 0
  have a1 := hA2.cell 1
  have a2 := hA2.cell 2
  have a3 := hA2.cell 3
  have b0 := hB2.cell 0
  have b1 := hB2.cell 1
  have b2 := hB2.cell 2
  have b3 := hB2.cell 3
  simp only [List.getElem?_toArray, List.getElem?_cons_zero, List.getElem?_cons_succ] at a0 a1 a2 a3 b0 b1 b2 b3
  have fa0 := hA2.frozen 0
  have fa1 := hA2.frozen 1
  have fa2 := hA2.frozen 2
  have fa3 := hA2.frozen 3
  have fb3 := hB2.frozen 3
  have hlt2 := hC2.lt
  have hla := hA2.lt
  have hlb := hB2.lt
  have hC2h := Lib.hid hC2
  have kl := hC2.c_loads
  have hA2h := Lib.hid hA2
  have hB2h := Lib.hid hB2
  clear F hC2 hA hB hA2 hB2 hgS hg0
  go_wp2
  have hAs : LBlk w2 w.heap.size 144 [.bool false, .bool false, .int .i64 0, .bool false] := hA2h.out
  have hA3 := ((((hAs.far (p := ⟨w.heap.size + 1, 3, none⟩) (by show w.heap.size ≠ w.heap.size + 1; omega) (.bool s.last.loads)).set_ 0 (.bool true)).set_ 1 (.bool true)).set_ 2 (.int .i64 1)).set_ 3 (.bool s.last.loads)
  have hCa := hC2h.out.far hB2h.out (by decide) (by decide) 3 (.bool s.last.loads)
  have hAf := hAs.far (p := ⟨w.heap.size + 1, 3, none⟩) (by show w.heap.size ≠ w.heap.size + 1; omega) (.bool s.last.loads)
  have hCb := (((hCa.far hAf (by decide) (by decide) 0 (.bool true)).far (hAf.set_ 0 (.bool true)) (by decide) (by decide) 1 (.bool true)).far ((hAf.set_ 0 (.bool true)).set_ 1 (.bool true)) (by decide) (by decide) 2 (.int .i64 1)).far (((hAf.set_ 0 (.bool true)).set_ 1 (.bool true)).set_ 2 (.int .i64 1)) (by decide) (by decide) 3 (.bool s.last.loads)
  refine bodyPost_ret (v := (⟨true, true, 1, s.last.loads⟩ : Sign).v) ?_ rfl ⟨rfl, hCb, ?_⟩
  · exact (results_cell_row rfl _ _ w.heap.size 144 (⟨true, true, 1, s.last.loads⟩ : Sign).cells (0, 0) _ rfl hA3 Tryz.underlying144 rfl (by kernel_rfl)).trans rfl
  · exact grown_new w (grown_new w (grown_new w (grown_new w (grown_new w hg2 (w.heap.size + 1) (by omega) 3 _) w.heap.size (Nat.le_refl _) 0 _) w.heap.size (Nat.le_refl _) 1 _) w.heap.size (Nat.le_refl _) 2 _) w.heap.size (Nat.le_refl _) 3 _
theorem finish_t {p : Nat} {s : Core} (w : World) (hC : CoreAt p s w) :
    Calls Tryz.prog 120 #[.pointer (some ⟨p, 0, none⟩)] w fun e w' => e = .returned s.finish.2.v ∧ CoreAt p s.finish.1 w' ∧ w.grownBy w' (some p) := by
  by_cases h0 : s.kind = 0
  · by_cases h40 : s.e.op = 40
    · rw [show s.finish = (s, ⟨false, false, 2, false⟩) from by unfold Core.finish; rw [if_neg (by simp [h0]), if_pos h40]]
      exact finish_sync w hC h0 h40
    by_cases h41 : s.e.op = 41
    · rw [show s.finish = (s, ⟨false, false, 3, false⟩) from by unfold Core.finish; rw [if_neg (by simp [h0]), if_neg h40, if_pos h41]]
      exact finish_cwai w hC h0 h41
    · rw [show s.finish = (s.last, ⟨true, true, 1, s.last.loads⟩) from by unfold Core.finish; rw [if_neg (by simp [h0]), if_neg h40, if_neg h41]]
      exact finish_last w hC h0 h40 h41
  · by_cases h4 : s.kind = 4
    · rw [show s.finish = ({ s with r := { s.r with cc := s.en.then_, dp := 0 } }, ⟨true, true, 1, false⟩) from by unfold Core.finish; rw [if_pos h0, if_pos h4]]
      exact finish_rst w hC h4
    · rw [show s.finish = ({ s with r := { s.r with cc := s.en.then_ } }, ⟨true, true, 1, false⟩) from by unfold Core.finish; rw [if_pos h0, if_neg h4]]
      exact finish_row w hC h0 h4
end Go.Proofs.YtkdaphkpllgmbaaGreat
namespace Go.Proofs.YtkdaphkpllgmbaaGreat
open Go.RowKit Sp
set_option linter.unusedVariables false
set_option linter.unusedSimpArgs false
attribute [local go_sem] Sp.Sign.v Sp.Sign.cells
theorem LBlk.set4 {w : World} {g : Nat} {t : TypeId} {x0 x1 x2 x3 : Value} (B : LBlk w g t [x0, x1, x2, x3]) (a b c d : Value) : LBlk ((((w.setCell ⟨g, 0, none⟩ a).setCell ⟨g, 1, none⟩ b).setCell ⟨g, 2, none⟩ c).setCell ⟨g, 3, none⟩ d) g t [a, b, c, d] := (((B.set_ 0 a).set_ 1 b).set_ 2 c).set_ 3 d
theorem CoreAt.far4 {p g : Nat} {s : Core} {w : World} {t : TypeId} {x0 x1 x2 x3 : Value} (h : CoreAt p s w) (B : LBlk w g t [x0, x1, x2, x3]) (h1 : 209 ≠ t) (h2 : 219 ≠ t) (a b c d : Value) : CoreAt p s ((((w.setCell ⟨g, 0, none⟩ a).setCell ⟨g, 1, none⟩ b).setCell ⟨g, 2, none⟩ c).setCell ⟨g, 3, none⟩ d) :=
  (((h.far B h1 h2 0 a).far (B.set_ 0 a) h1 h2 1 b).far ((B.set_ 0 a).set_ 1 b) h1 h2 2 c).far (((B.set_ 0 a).set_ 1 b).set_ 2 c) h1 h2 3 d
theorem grown_new4 (w : World) {r : Option Nat} {w' : World} (h : w.grownBy w' r) (g : Nat) (hg : w.heap.size ≤ g) (a b c d : Value) : w.grownBy ((((w'.setCell ⟨g, 0, none⟩ a).setCell ⟨g, 1, none⟩ b).setCell ⟨g, 2, none⟩ c).setCell ⟨g, 3, none⟩ d) r :=
  grown_new w (grown_new w (grown_new w (grown_new w h g hg 0 a) g hg 1 b) g hg 2 c) g hg 3 d
set_option maxRecDepth 100000 in
set_option maxHeartbeats 2000000 in
theorem tick_nil {p : Nat} {s : Core} (b : UInt8) (w : World) (hC : CoreAt p s w) (hq : s.q = []) :
    Calls Tryz.prog 73 #[.pointer (some ⟨p, 0, none⟩), .int .u8 (b.toNat : Int)] w fun e w' => e = .returned (.tuple #[(⟨false, false, 0, false⟩ : Sign).v, .bool false]) ∧ CoreAt p s w' ∧ w.grownBy w' (some p) := by
  have hlt := hC.lt
  have hC1 := Lib.hid (hC.alloc (.cells #[.bool false, .bool false, .int .i64 0, .bool false] 144))
  have hA := Blk.newAt w 144 #[.bool false, .bool false, .int .i64 0, .bool false] w.heap.size rfl
  have hP := Lib.hid (Pop_core_nil _ hC1.out hq)
  clear hC hq
  go_enter Tryz.func73, Tryz.ntmps73
  go_wp2_with fail
  refine hP.out.mono ?_
  rintro e w1 ⟨rfl, hb1⟩
  have hA1 : LBlk w1 w.heap.size 144 [.bool false, .bool false, .int .i64 0, .bool false] := hA.below hb1 hA.lt
  have hC2 := Lib.hid (CoreAt.below hC1.out hb1)
  have hg2 := Lib.hid (grown_then (grown_alloc w (World.grownBy.refl w (some p)) (.cells #[.bool false, .bool false, .int .i64 0, .bool false] 144)) (grown_of_below hb1 (some p)))
  have a0 := LBlk.cell hA1 0
  have a1 := LBlk.cell hA1 1
  have a2 := LBlk.cell hA1 2
  have a3 := LBlk.cell hA1 3
  simp only [List.getElem?_cons_zero, List.getElem?_cons_succ] at a0 a1 a2 a3
  have f0 := LBlk.frozen hA1 0
  have f1 := LBlk.frozen hA1 1
  have f2 := LBlk.frozen hA1 2
  have f3 := LBlk.frozen hA1 3
  have hla := LBlk.lt hA1
  have hA1h := Lib.hid hA1
  clear hA hb1 hA1
  go_wp2
  refine bodyPost_ret (v := .tuple #[(⟨false, false, 0, false⟩ : Sign).v, .bool false]) ?_ rfl ⟨rfl, CoreAt.alloc (CoreAt.far4 hC2.out hA1h.out (by decide) (by decide) _ _ _ _) _, grown_alloc w (grown_new4 w hg2.out w.heap.size (Nat.le_refl _) _ _ _ _) _⟩
  exact (results_cell_tmp2 (p := 4) (q := 5) (ty := 144) rfl _ _ w.heap.size 144 (⟨false, false, 0, false⟩ : Sign).cells (0, 0) _ rfl (LBlk.alloc (LBlk.set4 hA1h.out _ _ _ _) _) Tryz.underlying144 rfl (by kernel_rfl)).trans rfl
set_option maxRecDepth 100000 in
set_option maxHeartbeats 4000000 in
theorem tick_cons {p : Nat} {s : Core} (b : UInt8) (k : Int) (z : Bool) (q : List Step) (w : World) (hC : CoreAt p s w) (hq : s.q = ⟨k, z⟩ :: q) (h41 : s.e.op = 41 → s.e.mode = 1) (hne : k = 8 ∨ k = 9 → s.list ≠ []) :
    Calls Tryz.prog 73 #[.pointer (some ⟨p, 0, none⟩), .int .u8 (b.toNat : Int)] w fun e w' => e = .returned (.tuple #[(s.tick b).2.1.v, .bool true]) ∧ CoreAt p (s.tick b).1 w' ∧ w.grownBy w' (some p) := by
  have hlt := hC.lt
  have hC1 := hC.alloc (.cells #[.bool false, .bool false, .int .i64 0, .bool false] 144)
  have hA := Blk.newAt w 144 #[.bool false, .bool false, .int .i64 0, .bool false] w.heap.size rfl
  have hP := Lib.hid (Pop_core _ hC1 hq)
  obtain ⟨s2, hs2⟩ : ∃ s2, ({ s with q := q } : Core).do_ ⟨k, z⟩ b = s2 := ⟨_, rfl⟩
  have hmir : s.tick b = (match s2.q with | [] => (s2.finish.1, s2.finish.2, true) | n :: _ => (s2, ⟨false, decide (n.kind ≠ 4), 0, false⟩, true)) := by
    unfold Core.tick
    rw [hq]
    dsimp only
    rw [hs2]
    cases s2.q <;> rfl
  have HD := Lib.hid (fun (W : World) (h : CoreAt p { s with q := q } W) => do_t k z b W h h41 hne)
  rw [hs2] at HD
  have HM := Lib.hid hmir
  clear hC hC1 hq h41 hne hs2 hmir
  go_enter Tryz.func73, Tryz.ntmps73
  go_wp2_with fail
  refine hP.out.mono ?_
  rintro e w1 ⟨rfl, hC1, hg1⟩
  have hA1 := hA.grown hg1 (fun e => by injection e with e; omega)
  have hgx := grown_then (grown_alloc w (World.grownBy.refl w (some p)) (.cells #[.bool false, .bool false, .int .i64 0, .bool false] 144)) hg1
  have hC2 := hC1.alloc (.cells #[.int .i64 k, .bool z] 202)
  have hA2 := hA1.alloc (.cells #[.int .i64 k, .bool z] 202)
  have hg2 := grown_alloc w hgx (.cells #[.int .i64 k, .bool z] 202)
  have hla1 := hA1.lt
  clear hA hA1 hg1 hgx hC1 hP
  go_wp2_with fail
  refine (HD.out _ hC2).mono ?_
  rintro e w2 ⟨rfl, hC3, hg3⟩
  have hA3 := hA2.grown hg3 (fun e => by injection e with e; omega)
  have hg4 := grown_then hg2 hg3
  have hlt3 := hC3.lt
  clear hA2 hg2 hg3 hC2 HD
  go_wp2_with fail
  refine (Peek_core _ hC3).mono ?_
  rintro e w3 ⟨rfl, hb3⟩
  have hC4 := CoreAt.below hC3 hb3
  have hA4 : LBlk w3 w.heap.size 144 [.bool false, .bool false, .int .i64 0, .bool false] := hA3.below hb3 hA3.lt
  have hg5 := Lib.hid (grown_then hg4 (grown_of_below hb3 (some p)))
  have hlt4 := hC4.lt
  have hla4 := LBlk.lt hA4
  clear hA3 hb3 hg4 hC3
  cases hq2 : s2.q with
  | cons n q2 =>
    have HR := Lib.hid (show s.tick b = (s2, ⟨false, decide (n.kind ≠ 4), 0, false⟩, true) from by rw [HM.out, hq2])
    obtain ⟨nk, nb⟩ := n
    have hC4h := Lib.hid hC4
    have hA4h := Lib.hid hA4
    have a0 := LBlk.cell hA4 0
    have a1 := LBlk.cell hA4 1
    have a2 := LBlk.cell hA4 2
    have a3 := LBlk.cell hA4 3
    simp only [List.getElem?_cons_zero, List.getElem?_cons_succ] at a0 a1 a2 a3
    have f0 := LBlk.frozen hA4 0
    have f1 := LBlk.frozen hA4 1
    have f2 := LBlk.frozen hA4 2
    have f3 := LBlk.frozen hA4 3
    clear hq2 HM hC4 hA4
    rw [show headS (⟨nk, nb⟩ :: q2) = ⟨nk, nb⟩ from rfl, show (!(⟨nk, nb⟩ :: q2 : List Step).isEmpty) = true from rfl]
    dsimp only
    rw [show (decide (nk ≠ 4)) = (nk != 4) from by simp [bne]; rfl] at HR
    go_wp2
    refine bodyPost_ret (v := .tuple #[(⟨false, nk != 4, 0, false⟩ : Sign).v, .bool true]) ?_ rfl ?_
    · exact (results_cell_tmp2 (p := 4) (q := 5) (ty := 144) rfl _ _ w.heap.size 144 (⟨false, nk != 4, 0, false⟩ : Sign).cells (0, 0) _ rfl (LBlk.alloc (LBlk.set4 hA4h.out _ _ _ _) _) Tryz.underlying144 rfl (by kernel_rfl)).trans rfl
    · rw [HR.out]
      exact ⟨rfl, CoreAt.alloc (CoreAt.far4 hC4h.out hA4h.out (by decide) (by decide) _ _ _ _) _, grown_alloc w (grown_new4 w hg5.out w.heap.size (Nat.le_refl _) _ _ _ _) _⟩
  | nil =>
    have HR := Lib.hid (show s.tick b = (s2.finish.1, s2.finish.2, true) from by rw [HM.out, hq2])
    rw [show headS ([] : List Step) = step0 from rfl, show (!([] : List Step).isEmpty) = false from rfl]
    have hC5 := hC4.alloc (.cells #[.int .i64 0, .bool false] 202)
    have hA5 := LBlk.alloc hA4 (.cells #[.int .i64 0, .bool false] 202)
    have hg6 := grown_alloc w hg5.out (.cells #[.int .i64 0, .bool false] 202)
    clear hq2 HM hC4 hA4 hg5
    go_wp2_with fail
    refine (finish_t _ hC5).mono ?_
    rintro e w5 ⟨rfl, hC6, hg7⟩
    have hA6 := hA5.grown hg7 (fun e => by injection e with e; omega)
    have hg8 := Lib.hid (grown_then hg6 hg7)
    have hC6h := Lib.hid hC6
    have hA6h := Lib.hid hA6
    obtain ⟨⟨l1, l2, l3, l4⟩, hsg⟩ : ∃ v, s2.finish.2 = v := ⟨_, rfl⟩
    rw [hsg] at HR
    rw [hsg]
    have a0 := LBlk.cell hA6 0
    have a1 := LBlk.cell hA6 1
    have a2 := LBlk.cell hA6 2
    have a3 := LBlk.cell hA6 3
    simp only [List.getElem?_cons_zero, List.getElem?_cons_succ] at a0 a1 a2 a3
    have f0 := LBlk.frozen hA6 0
    have f1 := LBlk.frozen hA6 1
    have f2 := LBlk.frozen hA6 2
    have f3 := LBlk.frozen hA6 3
    have hla6 := LBlk.lt hA6
    clear hC5 hA5 hg6 hg7 hC6 hA6 hsg
    go_wp2
    refine bodyPost_ret (v := .tuple #[(⟨l1, l2, l3, l4⟩ : Sign).v, .bool true]) ?_ rfl ?_
    · exact (results_cell_tmp2 (p := 4) (q := 5) (ty := 144) rfl _ _ w.heap.size 144 (⟨l1, l2, l3, l4⟩ : Sign).cells (0, 0) _ rfl (LBlk.set4 hA6h.out _ _ _ _) Tryz.underlying144 rfl (by kernel_rfl)).trans rfl
    · rw [HR.out]
      exact ⟨rfl, CoreAt.far4 hC6h.out hA6h.out (by decide) (by decide) _ _ _ _, grown_new4 w hg8.out w.heap.size (Nat.le_refl _) _ _ _ _⟩
end Go.Proofs.YtkdaphkpllgmbaaGreat

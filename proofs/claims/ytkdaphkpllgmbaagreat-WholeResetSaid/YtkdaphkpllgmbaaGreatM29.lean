/-
  Contract of the core's inside.
-/
import Derived.Test.YtkdaphkpllgmbaaGreatM12
import Derived.Test.YtkdaphkpllgmbaaGreatM28
import Derived.Deep.RegionWith
namespace Go.Proofs.YtkdaphkpllgmbaaGreat
open Go.RowKit Sp
set_option linter.unusedVariables false
set_option linter.unusedSimpArgs false
set_option maxRecDepth 100000 in
set_option maxHeartbeats 1000000 in
theorem inside_1 {p : Nat} {s : Core}  (w : World) (hC : CoreAt p s w) (hop : s.e.op = 1) :
    Calls Tryz.prog 176 #[.pointer (some ⟨p, 0, none⟩)] w fun e w' => e = .returned (.tuple #[]) ∧ CoreAt p ({ s with r := { s.r with x := plusW s.r.x (Sp.wide s.r.b) } }) w' ∧ w.grownBy w' (some p) := by
  have hC0 := Lib.hid hC
  have hlt := hC.lt
  have e2 := wide_e
  obtain ⟨ring, qa, lA, lc, hI⟩ := id hC; have F := core_facts hI
  rw [hop] at F
  clear hI hC hop
  have HE := Lib.hid (fun W => wideAbx_t s.r.x s.r.b W)
  generalize plusW s.r.x (Sp.wide s.r.b) = X at *
  go_enter Tryz.func176, Tryz.ntmps176
  go_wp2
  go_region_with ((go_at_call 216; refine (HE.out _).mono ?_; rintro e wE ⟨rfl, hbE⟩; have hC3 := CoreAt.below (hC0.out.drew) hbE; obtain ⟨ring3, qa3, lA3, lc3, hI3⟩ := id hC3; have F3 := core_facts hI3))
  all_goals
    have hg3 := grown_of_below (below_then (Below.refl w.heap.size w).drew hbE) (some p)
    have hlt3 := hC3.lt
    have hC3h := Lib.hid hC3
    clear hC3
    go_wp2
    first | go_end0 | refine bodyPost_ret (results_none rfl _ _ _) rfl ?_
    refine ⟨rfl, CoreAt.of ?_, ?_⟩
    · apply Exists.intro
      refine ⟨?_, ?_⟩
      · (repeat (with_reducible first | exact hC3h.out | apply CoreAt.drew | apply CoreAt.drewN | apply CoreAt.alloc | apply CoreAt.set_a | apply CoreAt.set_b | apply CoreAt.set_dp | apply CoreAt.set_cc | apply CoreAt.set_x | apply CoreAt.set_y | apply CoreAt.set_u | apply CoreAt.set_s | apply CoreAt.set_pc | apply CoreAt.set_kind | apply CoreAt.set_page | apply CoreAt.set_op | apply CoreAt.set_mode | apply CoreAt.set_reg | apply CoreAt.set_post | apply CoreAt.set_args | apply CoreAt.set_value | apply CoreAt.set_ea | apply CoreAt.set_word | apply CoreAt.set_ptr | apply CoreAt.set_stack | apply CoreAt.set_pushed | apply CoreAt.set_then_ | apply CoreAt.set_vector | apply CoreAt.set_whole | apply CoreAt.set_loads))
      · rfl
    · (repeat (with_reducible first | exact World.grownBy.refl _ _ | assumption | apply grown_drew | apply grown_drewN | apply grown_alloc | apply grown_set))
set_option maxRecDepth 100000 in
set_option maxHeartbeats 1000000 in
theorem inside_42 {p : Nat} {s : Core}  (w : World) (hC : CoreAt p s w) (hop : s.e.op = 42) :
    Calls Tryz.prog 176 #[.pointer (some ⟨p, 0, none⟩)] w fun e w' => e = .returned (.tuple #[]) ∧ CoreAt p ({ s with r := { s.r with a := (daaB s.r.a s.r.cc).1, cc := (daaB s.r.a s.r.cc).2 } }) w' ∧ w.grownBy w' (some p) := by
  have hC0 := Lib.hid hC
  have hlt := hC.lt
  have e2 := wide_e
  obtain ⟨ring, qa, lA, lc, hI⟩ := id hC; have F := core_facts hI
  rw [hop] at F
  clear hI hC hop
  have HE := Lib.hid (fun W => Daa_t s.r.a s.r.cc W)
  obtain ⟨⟨r8, c8⟩, hx⟩ : ∃ x, daaB s.r.a s.r.cc = x := ⟨_, rfl⟩
  rw [hx] at HE ⊢
  clear hx
  go_enter Tryz.func176, Tryz.ntmps176
  go_wp2
  go_region_with ((go_at_call 217; refine (HE.out _).mono ?_; rintro e wE ⟨rfl, hbE⟩; have hC3 := CoreAt.below (hC0.out.drew) hbE; obtain ⟨ring3, qa3, lA3, lc3, hI3⟩ := id hC3; have F3 := core_facts hI3))
  all_goals
    have hg3 := grown_of_below (below_then (Below.refl w.heap.size w).drew hbE) (some p)
    have hlt3 := hC3.lt
    have hC3h := Lib.hid hC3
    clear hC3
    go_wp2
    first | go_end0 | refine bodyPost_ret (results_none rfl _ _ _) rfl ?_
    refine ⟨rfl, CoreAt.of ?_, ?_⟩
    · apply Exists.intro
      refine ⟨?_, ?_⟩
      · (repeat (with_reducible first | exact hC3h.out | apply CoreAt.drew | apply CoreAt.drewN | apply CoreAt.alloc | apply CoreAt.set_a | apply CoreAt.set_b | apply CoreAt.set_dp | apply CoreAt.set_cc | apply CoreAt.set_x | apply CoreAt.set_y | apply CoreAt.set_u | apply CoreAt.set_s | apply CoreAt.set_pc | apply CoreAt.set_kind | apply CoreAt.set_page | apply CoreAt.set_op | apply CoreAt.set_mode | apply CoreAt.set_reg | apply CoreAt.set_post | apply CoreAt.set_args | apply CoreAt.set_value | apply CoreAt.set_ea | apply CoreAt.set_word | apply CoreAt.set_ptr | apply CoreAt.set_stack | apply CoreAt.set_pushed | apply CoreAt.set_then_ | apply CoreAt.set_vector | apply CoreAt.set_whole | apply CoreAt.set_loads))
      · rfl
    · (repeat (with_reducible first | exact World.grownBy.refl _ _ | assumption | apply grown_drew | apply grown_drewN | apply grown_alloc | apply grown_set))
set_option maxRecDepth 100000 in
set_option maxHeartbeats 1000000 in
theorem inside_45 {p : Nat} {s : Core}  (w : World) (hC : CoreAt p s w) (hop : s.e.op = 45) :
    Calls Tryz.prog 176 #[.pointer (some ⟨p, 0, none⟩)] w fun e w' => e = .returned (.tuple #[]) ∧ CoreAt p ({ s with r := { s.r.set 0 (sext s.r.b) with cc := nzW s.r.cc (sext s.r.b) } }) w' ∧ w.grownBy w' (some p) := by
  have hC0 := Lib.hid hC
  have hlt := hC.lt
  have e2 := wide_e
  obtain ⟨ring, qa, lA, lc, hI⟩ := id hC; have F := core_facts hI
  rw [hop] at F
  clear hI hC hop
  have HE := Lib.hid (fun W => Sex_t s.r.b s.r.cc W)
  generalize nzW s.r.cc (sext s.r.b) = c8 at *
  generalize sext s.r.b = r8 at *
  go_enter Tryz.func176, Tryz.ntmps176
  go_wp2
  go_region_held3 (fun W => W.cell? ⟨p, 1, none⟩ = some (.int .u8 (s.r.b.toNat : Int)) ∧ W.cell? ⟨p, 3, none⟩ = some (.int .u8 (s.r.cc.toNat : Int))) (first | (go_keep; done) | assumption | (simp [*, set_far, World.cell?_alloc_some, World.cell?_setCell_far]; done) | exact ⟨(hbE.cell (p := ⟨p, 1, none⟩) hlt).trans (by go_keep), (hbE.cell (p := ⟨p, 3, none⟩) hlt).trans (by go_keep)⟩) (first | (go_at_call 218; refine (HE.out _).mono ?_; rintro e wE ⟨rfl, hbE⟩; obtain ⟨hc_hbE, hf_hbE, hz_hbE⟩ := bcells hbE))
  have hbt : Below w.heap.size w wE := (by repeat (first | exact Below.refl _ _ | apply below_alloc | apply Below.drew | apply below_drewN | (refine below_then ?_ (by assumption))))
  have hC1 := hC0.out.below hbt
  have hg1 := grown_of_below hbt (some p)
  clear F
  obtain ⟨ring1, qa1, lA1, lc1, hI1⟩ := id hC1; have F1 := core_facts hI1
  clear hI1
  have hlt1 := hC1.lt
  have hC1h := Lib.hid hC1
  clear hbE hc_hbE hf_hbE hz_hbE hbt hC1
  go_wp2_with fail
  refine (Set_core _ _ _ hC1h.out).mono ?_
  rintro e wS ⟨rfl, hCS, hgS⟩
  have hg2 := grown_then hg1 hgS
  clear F1
  obtain ⟨ring2, qa2, lA2, lc2, hI2⟩ := id hCS; have F2 := core_facts hI2
  clear hI2
  have hlt2 := hCS.lt
  have hCSh := Lib.hid hCS
  clear hCS hgS hg1
  go_wp2
  first | go_end0 | refine bodyPost_ret (results_none rfl _ _ _) rfl ?_
  refine ⟨rfl, CoreAt.of ?_, ?_⟩
  · apply Exists.intro
    refine ⟨?_, ?_⟩
    · (repeat (with_reducible first | exact hCSh.out | apply CoreAt.drew | apply CoreAt.drewN | apply CoreAt.alloc | apply CoreAt.set_a | apply CoreAt.set_b | apply CoreAt.set_dp | apply CoreAt.set_cc | apply CoreAt.set_x | apply CoreAt.set_y | apply CoreAt.set_u | apply CoreAt.set_s | apply CoreAt.set_pc | apply CoreAt.set_kind | apply CoreAt.set_page | apply CoreAt.set_op | apply CoreAt.set_mode | apply CoreAt.set_reg | apply CoreAt.set_post | apply CoreAt.set_args | apply CoreAt.set_value | apply CoreAt.set_ea | apply CoreAt.set_word | apply CoreAt.set_ptr | apply CoreAt.set_stack | apply CoreAt.set_pushed | apply CoreAt.set_then_ | apply CoreAt.set_vector | apply CoreAt.set_whole | apply CoreAt.set_loads))
    · rfl
  · (repeat (with_reducible first | exact World.grownBy.refl _ _ | assumption | apply grown_drew | apply grown_drewN | apply grown_alloc | apply grown_set))
set_option maxRecDepth 100000 in
set_option maxHeartbeats 1000000 in
theorem inside_50 {p : Nat} {s : Core}  (w : World) (hC : CoreAt p s w) (hop : s.e.op = 50) :
    Calls Tryz.prog 176 #[.pointer (some ⟨p, 0, none⟩)] w fun e w' => e = .returned (.tuple #[]) ∧ CoreAt p ({ s with r := { s.r.set 0 ((mulB s.r.a s.r.b s.r.cc).1) with cc := (mulB s.r.a s.r.b s.r.cc).2 } }) w' ∧ w.grownBy w' (some p) := by
  have hC0 := Lib.hid hC
  have hlt := hC.lt
  have e2 := wide_e
  obtain ⟨ring, qa, lA, lc, hI⟩ := id hC; have F := core_facts hI
  rw [hop] at F
  clear hI hC hop
  have HE := Lib.hid (fun W => timesMul_t s.r.a s.r.b s.r.cc W)
  obtain ⟨⟨r8, c8⟩, hx⟩ : ∃ x, mulB s.r.a s.r.b s.r.cc = x := ⟨_, rfl⟩
  rw [hx] at HE ⊢
  clear hx
  go_enter Tryz.func176, Tryz.ntmps176
  go_wp2
  go_region_held3 (fun W => W.cell? ⟨p, 0, none⟩ = some (.int .u8 (s.r.a.toNat : Int)) ∧ W.cell? ⟨p, 1, none⟩ = some (.int .u8 (s.r.b.toNat : Int)) ∧ W.cell? ⟨p, 3, none⟩ = some (.int .u8 (s.r.cc.toNat : Int))) (first | (go_keep; done) | assumption | (simp [*, set_far, World.cell?_alloc_some, World.cell?_setCell_far]; done) | exact ⟨(hbE.cell (p := ⟨p, 0, none⟩) hlt).trans (by go_keep), (hbE.cell (p := ⟨p, 1, none⟩) hlt).trans (by go_keep), (hbE.cell (p := ⟨p, 3, none⟩) hlt).trans (by go_keep)⟩) (first | (go_at_call 219; refine (HE.out _).mono ?_; rintro e wE ⟨rfl, hbE⟩; obtain ⟨hc_hbE, hf_hbE, hz_hbE⟩ := bcells hbE))
  have hbt : Below w.heap.size w wE := (by repeat (first | exact Below.refl _ _ | apply below_alloc | apply Below.drew | apply below_drewN | (refine below_then ?_ (by assumption))))
  have hC1 := hC0.out.below hbt
  have hg1 := grown_of_below hbt (some p)
  clear F
  obtain ⟨ring1, qa1, lA1, lc1, hI1⟩ := id hC1; have F1 := core_facts hI1
  clear hI1
  have hlt1 := hC1.lt
  have hC1h := Lib.hid hC1
  clear hbE hc_hbE hf_hbE hz_hbE hbt hC1
  go_wp2_with fail
  refine (Set_core _ _ _ hC1h.out).mono ?_
  rintro e wS ⟨rfl, hCS, hgS⟩
  have hg2 := grown_then hg1 hgS
  clear F1
  obtain ⟨ring2, qa2, lA2, lc2, hI2⟩ := id hCS; have F2 := core_facts hI2
  clear hI2
  have hlt2 := hCS.lt
  have hCSh := Lib.hid hCS
  clear hCS hgS hg1
  go_wp2
  first | go_end0 | refine bodyPost_ret (results_none rfl _ _ _) rfl ?_
  refine ⟨rfl, CoreAt.of ?_, ?_⟩
  · apply Exists.intro
    refine ⟨?_, ?_⟩
    · (repeat (with_reducible first | exact hCSh.out | apply CoreAt.drew | apply CoreAt.drewN | apply CoreAt.alloc | apply CoreAt.set_a | apply CoreAt.set_b | apply CoreAt.set_dp | apply CoreAt.set_cc | apply CoreAt.set_x | apply CoreAt.set_y | apply CoreAt.set_u | apply CoreAt.set_s | apply CoreAt.set_pc | apply CoreAt.set_kind | apply CoreAt.set_page | apply CoreAt.set_op | apply CoreAt.set_mode | apply CoreAt.set_reg | apply CoreAt.set_post | apply CoreAt.set_args | apply CoreAt.set_value | apply CoreAt.set_ea | apply CoreAt.set_word | apply CoreAt.set_ptr | apply CoreAt.set_stack | apply CoreAt.set_pushed | apply CoreAt.set_then_ | apply CoreAt.set_vector | apply CoreAt.set_whole | apply CoreAt.set_loads))
    · rfl
  · (repeat (with_reducible first | exact World.grownBy.refl _ _ | assumption | apply grown_drew | apply grown_drewN | apply grown_alloc | apply grown_set))
set_option maxRecDepth 100000 in
set_option maxHeartbeats 1000000 in
theorem inside_51 {p : Nat} {s : Core}  (w : World) (hC : CoreAt p s w) (hop : s.e.op = 51) :
    Calls Tryz.prog 176 #[.pointer (some ⟨p, 0, none⟩)] w fun e w' => e = .returned (.tuple #[]) ∧ CoreAt p ({ s with r := { s.r with cc := s.en.then_ } }) w' ∧ w.grownBy w' (some p) := by
  have hC0 := Lib.hid hC
  have hlt := hC.lt
  have e2 := wide_e
  obtain ⟨ring, qa, lA, lc, hI⟩ := id hC; have F := core_facts hI
  rw [hop] at F
  clear hI hC hop
  go_enter Tryz.func176, Tryz.ntmps176
  go_wp2
  first | go_end0 | refine bodyPost_ret (results_none rfl _ _ _) rfl ?_
  refine ⟨rfl, CoreAt.of ?_, ?_⟩
  · apply Exists.intro
    refine ⟨?_, ?_⟩
    · (repeat (with_reducible first | exact hC0.out | apply CoreAt.drew | apply CoreAt.drewN | apply CoreAt.alloc | apply CoreAt.set_a | apply CoreAt.set_b | apply CoreAt.set_dp | apply CoreAt.set_cc | apply CoreAt.set_x | apply CoreAt.set_y | apply CoreAt.set_u | apply CoreAt.set_s | apply CoreAt.set_pc | apply CoreAt.set_kind | apply CoreAt.set_page | apply CoreAt.set_op | apply CoreAt.set_mode | apply CoreAt.set_reg | apply CoreAt.set_post | apply CoreAt.set_args | apply CoreAt.set_value | apply CoreAt.set_ea | apply CoreAt.set_word | apply CoreAt.set_ptr | apply CoreAt.set_stack | apply CoreAt.set_pushed | apply CoreAt.set_then_ | apply CoreAt.set_vector | apply CoreAt.set_whole | apply CoreAt.set_loads))
    · rfl
  · (repeat (with_reducible first | exact World.grownBy.refl _ _ | assumption | apply grown_drew | apply grown_drewN | apply grown_alloc | apply grown_set))
set_option maxRecDepth 100000 in
set_option maxHeartbeats 1000000 in
theorem inside_else {p : Nat} {s : Core}  (w : World) (hC : CoreAt p s w) (h1 : s.e.op ≠ 1) (h42 : s.e.op ≠ 42) (h45 : s.e.op ≠ 45) (h50 : s.e.op ≠ 50) (h51 : s.e.op ≠ 51) :
    Calls Tryz.prog 176 #[.pointer (some ⟨p, 0, none⟩)] w fun e w' => e = .returned (.tuple #[]) ∧ CoreAt p ((let x := change s.e.op (lo (s.r.get s.e.reg)) s.r.cc; let r : Regs := { s.r with cc := x.2.1 }; { s with r := if x.2.2 then r.set s.e.reg (Sp.wide x.1) else r })) w' ∧ w.grownBy w' (some p) := by
  have hC0 := Lib.hid hC
  have hlt := hC.lt
  have e2 := wide_e
  have b1 : (s.e.op == 1) = false := beq_eq_false_iff_ne.mpr h1
  have b42 : (s.e.op == 42) = false := beq_eq_false_iff_ne.mpr h42
  have b45 : (s.e.op == 45) = false := beq_eq_false_iff_ne.mpr h45
  have b50 : (s.e.op == 50) = false := beq_eq_false_iff_ne.mpr h50
  have b51 : (s.e.op == 51) = false := beq_eq_false_iff_ne.mpr h51
  clear h1 h42 h45 h50 h51
  obtain ⟨⟨r8, c8, is⟩, hx⟩ : ∃ x, change s.e.op (lo (s.r.get s.e.reg)) s.r.cc = x := ⟨_, rfl⟩
  have HE := Lib.hid (fun W => change_t s.e.op (lo (s.r.get s.e.reg)) s.r.cc W)
  rw [hx] at HE ⊢
  clear hx
  obtain ⟨ring, qa, lA, lc, hI⟩ := id hC; have F := core_facts hI
  clear hI hC
  go_enter Tryz.func176, Tryz.ntmps176
  go_wp2
  go_region_held3 (fun W => W.cell? ⟨p, 61, none⟩ = some (.int .i64 s.e.op) ∧ W.cell? ⟨p, 63, none⟩ = some (.int .i64 s.e.reg) ∧ W.cell? ⟨p, 3, none⟩ = some (.int .u8 (s.r.cc.toNat : Int))) (first | (go_keep; done) | assumption | (simp [*, set_far, World.cell?_alloc_some, World.cell?_setCell_far]; done) | exact ⟨(hbE.cell (p := ⟨p, 61, none⟩) hlt).trans (by go_keep), (hbE.cell (p := ⟨p, 63, none⟩) hlt).trans (by go_keep), (hbE.cell (p := ⟨p, 3, none⟩) hlt).trans (by go_keep)⟩) (first | (go_at_call 143; refine (Get_core _ _ (CoreAt.below hC0.out (by repeat (first | exact Below.refl _ _ | apply below_alloc | apply Below.drew | apply below_drewN | (refine below_then ?_ (by assumption)))))).mono ?_; rintro e w1 ⟨rfl, n, rfl⟩) | (go_at_call 30; refine (Low_t _ _).mono ?_; rintro e w1 ⟨rfl, rfl⟩) | (go_at_call 172; refine (HE.out _).mono ?_; rintro e wE ⟨rfl, hbE⟩; obtain ⟨hc_hbE, hf_hbE, hz_hbE⟩ := bcells hbE))
  have hbt : Below w.heap.size w wE := (by repeat (first | exact Below.refl _ _ | apply below_alloc | apply Below.drew | apply below_drewN | (refine below_then ?_ (by assumption))))
  have hC1 := hC0.out.below hbt
  have hg1 := grown_of_below hbt (some p)
  clear F
  obtain ⟨ring1, qa1, lA1, lc1, hI1⟩ := id hC1; have F1 := core_facts hI1
  clear hI1
  have hlt1 := hC1.lt
  have hC2 := Lib.hid (hC1.set_cc c8)
  have hC1h := Lib.hid hC1
  clear hbE hc_hbE hf_hbE hz_hbE hbt hC1
  cases is
  · go_wp2
    first | go_end0 | refine bodyPost_ret (results_none rfl _ _ _) rfl ?_
    refine ⟨rfl, CoreAt.of ?_, ?_⟩
    · apply Exists.intro
      refine ⟨?_, ?_⟩
      · (repeat (with_reducible first | exact hC1h.out | apply CoreAt.drew | apply CoreAt.drewN | apply CoreAt.alloc | apply CoreAt.set_a | apply CoreAt.set_b | apply CoreAt.set_dp | apply CoreAt.set_cc | apply CoreAt.set_x | apply CoreAt.set_y | apply CoreAt.set_u | apply CoreAt.set_s | apply CoreAt.set_pc | apply CoreAt.set_kind | apply CoreAt.set_page | apply CoreAt.set_op | apply CoreAt.set_mode | apply CoreAt.set_reg | apply CoreAt.set_post | apply CoreAt.set_args | apply CoreAt.set_value | apply CoreAt.set_ea | apply CoreAt.set_word | apply CoreAt.set_ptr | apply CoreAt.set_stack | apply CoreAt.set_pushed | apply CoreAt.set_then_ | apply CoreAt.set_vector | apply CoreAt.set_whole | apply CoreAt.set_loads))
      · rfl
    · (repeat (with_reducible first | exact World.grownBy.refl _ _ | assumption | apply grown_drew | apply grown_drewN | apply grown_alloc | apply grown_set))
  · go_wp2
    go_region_held3 (fun W => W.cell? ⟨p, 63, none⟩ = some (.int .i64 s.e.reg)) (first | (go_keep; done) | assumption | (simp [*, set_far, World.cell?_alloc_some, World.cell?_setCell_far]; done)) (first | (go_at_call 147; refine (Set_core _ _ _ (CoreAt.below hC2.out (by repeat (first | exact Below.refl _ _ | apply below_alloc | apply Below.drew | apply below_drewN | (refine below_then ?_ (by assumption)))))).mono ?_; rintro e wS ⟨rfl, hCS, hgS⟩; have kS_reg := hCS.c_reg))
    go_wp2
    first | go_end0 | refine bodyPost_ret (results_none rfl _ _ _) rfl ?_
    exact ⟨rfl, hCS, grown_then (grown_drew w (grown_set w hg1 _ _)) hgS⟩
set_option maxRecDepth 100000 in
set_option maxHeartbeats 1000000 in
theorem inside_t {p : Nat} {s : Core}  (w : World) (hC : CoreAt p s w) :
    Calls Tryz.prog 176 #[.pointer (some ⟨p, 0, none⟩)] w fun e w' => e = .returned (.tuple #[]) ∧ CoreAt p (s.inside) w' ∧ w.grownBy w' (some p) := by
  by_cases h1 : s.e.op = 1
  · rw [show s.inside = { s with r := { s.r with x := plusW s.r.x (Sp.wide s.r.b) } } from by simp [Core.inside, h1]]; exact inside_1 w hC h1
  by_cases h42 : s.e.op = 42
  · rw [show s.inside = { s with r := { s.r with a := (daaB s.r.a s.r.cc).1, cc := (daaB s.r.a s.r.cc).2 } } from by simp [Core.inside, h42]]; exact inside_42 w hC h42
  by_cases h45 : s.e.op = 45
  · rw [show s.inside = { s with r := { s.r.set 0 (sext s.r.b) with cc := nzW s.r.cc (sext s.r.b) } } from by simp [Core.inside, h45]]; exact inside_45 w hC h45
  by_cases h50 : s.e.op = 50
  · rw [show s.inside = { s with r := { s.r.set 0 (mulB s.r.a s.r.b s.r.cc).1 with cc := (mulB s.r.a s.r.b s.r.cc).2 } } from by simp [Core.inside, h50]]; exact inside_50 w hC h50
  by_cases h51 : s.e.op = 51
  · rw [show s.inside = { s with r := { s.r with cc := s.en.then_ } } from by simp [Core.inside, h51]]; exact inside_51 w hC h51
  rw [show s.inside = (let x := change s.e.op (lo (s.r.get s.e.reg)) s.r.cc; let r : Regs := { s.r with cc := x.2.1 }; { s with r := if x.2.2 then r.set s.e.reg (Sp.wide x.1) else r }) from by unfold Core.inside; rw [if_neg h1, if_neg h42, if_neg h45, if_neg h50, if_neg h51]]
  exact inside_else w hC h1 h42 h45 h50 h51
end Go.Proofs.YtkdaphkpllgmbaaGreat

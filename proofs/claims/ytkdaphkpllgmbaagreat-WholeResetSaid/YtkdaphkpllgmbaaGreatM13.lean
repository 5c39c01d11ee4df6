/-
  Contract of the core's load.
  Contracts of lists.Byte, lists.With.
-/
import Derived.Test.YtkdaphkpllgmbaaGreatM12
import Derived.Test.YtkdaphkpllgmbaaGreatM04
namespace Go.Proofs.YtkdaphkpllgmbaaGreat
open Go.RowKit Sp
set_option linter.unusedVariables false
set_option linter.unusedSimpArgs false
set_option maxRecDepth 100000 in
set_option maxHeartbeats 1000000 in
theorem load_1 {p : Nat} {s : Core} (k : Int) (t : Bool) (b : UInt8) (w : World) (hC : CoreAt p s w) (hg : group s.e.op = 1) :
    Calls Tryz.prog 146 #[.pointer (some ⟨p, 0, none⟩), .agg #[.int .i64 k, .bool t], .int .u8 (b.toNat : Int)] w fun e w' => e = .returned (.tuple #[]) ∧ CoreAt p (({ s with word := joinW s.word b } : Core).eight b) w' ∧ w.grownBy w' (some p) := by
  have hC0 := Lib.hid hC
  have hlt := hC.lt
  have e1 := plus1_e
  have e2 := wide_e
  have e3 := join_e
  have HG := Lib.hid (fun W => group_t s.e.op W)
  obtain ⟨ring, qa, lA, lc, hI⟩ := id hC; have F := core_facts hI
  clear hI hC
  rw [hg] at HG
  clear hg
  have HE := Lib.hid (fun (W : World) (h : CoreAt p { s with word := joinW s.word b } W) => eight_t b W h)
  go_enter Tryz.func146, Tryz.ntmps146
  go_wp2_with (first | (go_at_call 170; refine (HG.out _).mono ?_; rintro e w1 ⟨rfl, rfl⟩))
  have hW := (hC0.out.set_word (joinW s.word b)).alloc (.cells #[.int .i64 k, .bool t] 202)
  have hgW := grown_alloc w (grown_set w (World.grownBy.refl w (some p)) 68 (.int .u16 ((joinW s.word b).toNat : Int))) (.cells #[.int .i64 k, .bool t] 202)
  refine (HE.out _ hW).mono ?_
  rintro e wS ⟨rfl, hCS, hgS⟩
  go_wp2
  first | go_end0 | refine bodyPost_ret (results_none rfl _ _ _) rfl ?_
  exact ⟨rfl, hCS, grown_then hgW hgS⟩
set_option maxRecDepth 100000 in
set_option maxHeartbeats 1000000 in
theorem load_3 {p : Nat} {s : Core} (k : Int) (t : Bool) (b : UInt8) (w : World) (hC : CoreAt p s w) (hg : group s.e.op = 3) :
    Calls Tryz.prog 146 #[.pointer (some ⟨p, 0, none⟩), .agg #[.int .i64 k, .bool t], .int .u8 (b.toNat : Int)] w fun e w' => e = .returned (.tuple #[]) ∧ CoreAt p ({ s with word := Sp.wide (change s.e.op b s.r.cc).1, r := { s.r with cc := (change s.e.op b s.r.cc).2.1 } }) w' ∧ w.grownBy w' (some p) := by
  have hC0 := Lib.hid hC
  have hlt := hC.lt
  have e1 := plus1_e
  have e2 := wide_e
  have e3 := join_e
  have HG := Lib.hid (fun W => group_t s.e.op W)
  obtain ⟨ring, qa, lA, lc, hI⟩ := id hC; have F := core_facts hI
  clear hI hC
  rw [hg] at HG
  clear hg
  have HE := Lib.hid (fun W => change_t s.e.op b s.r.cc W)
  obtain ⟨⟨r8, c8, is⟩, hx⟩ : ∃ x, change s.e.op b s.r.cc = x := ⟨_, rfl⟩
  rw [hx] at HE ⊢
  clear hx
  go_enter Tryz.func146, Tryz.ntmps146
  go_wp2_with (first | (go_at_call 170; refine (HG.out _).mono ?_; rintro e w1 ⟨rfl, rfl⟩))
  have hW := (hC0.out.set_word (joinW s.word b)).alloc (.cells #[.int .i64 k, .bool t] 202)
  have hgW := grown_alloc w (grown_set w (World.grownBy.refl w (some p)) 68 (.int .u16 ((joinW s.word b).toNat : Int))) (.cells #[.int .i64 k, .bool t] 202)
  generalize (w.setCell ⟨p, 68, none⟩ (.int .u16 ((joinW s.word b).toNat : Int))).alloc (.cells #[.int .i64 k, .bool t] 202) = w1 at *
  have hltW := hW.lt
  have hWh := Lib.hid hW
  clear F
  obtain ⟨ring1, qa1, lA1, lc1, hI1⟩ := id hW; have F1 := core_facts hI1
  clear hI1 hW
  go_region_held3 (fun W => W.cell? ⟨p, 61, none⟩ = some (.int .i64 s.e.op) ∧ W.cell? ⟨p, 3, none⟩ = some (.int .u8 (s.r.cc.toNat : Int))) (first | (go_keep; done) | assumption | (simp [*, set_far, World.cell?_alloc_some, World.cell?_setCell_far]; done) | exact ⟨(hbE.cell (p := ⟨p, 61, none⟩) hltW).trans (by go_keep), (hbE.cell (p := ⟨p, 3, none⟩) hltW).trans (by go_keep)⟩) (first | (go_at_call 172; refine (HE.out _).mono ?_; rintro e wE ⟨rfl, hbE⟩; obtain ⟨hc_hbE, hf_hbE, hz_hbE⟩ := bcells hbE))
  have hC2 := CoreAt.below (hWh.out.drew) hbE
  have hg2 := grown_then (grown_drew w hgW) (grown_of_below hbE (some p))
  clear F1
  obtain ⟨ring2, qa2, lA2, lc2, hI2⟩ := id hC2; have F2 := core_facts hI2
  clear hI2
  have hlt2 := hC2.lt
  have hC2h := Lib.hid hC2
  clear hbE hc_hbE hf_hbE hz_hbE hC2
  go_wp2
  first | go_end0 | refine bodyPost_ret (results_none rfl _ _ _) rfl ?_
  refine ⟨rfl, CoreAt.of ?_, ?_⟩
  · apply Exists.intro
    refine ⟨?_, ?_⟩
    · (repeat (with_reducible first | exact hC2h.out | apply CoreAt.drew | apply CoreAt.drewN | apply CoreAt.alloc | apply CoreAt.set_a | apply CoreAt.set_b | apply CoreAt.set_dp | apply CoreAt.set_cc | apply CoreAt.set_x | apply CoreAt.set_y | apply CoreAt.set_u | apply CoreAt.set_s | apply CoreAt.set_pc | apply CoreAt.set_kind | apply CoreAt.set_page | apply CoreAt.set_op | apply CoreAt.set_mode | apply CoreAt.set_reg | apply CoreAt.set_post | apply CoreAt.set_args | apply CoreAt.set_value | apply CoreAt.set_ea | apply CoreAt.set_word | apply CoreAt.set_ptr | apply CoreAt.set_stack | apply CoreAt.set_pushed | apply CoreAt.set_then_ | apply CoreAt.set_vector | apply CoreAt.set_whole | apply CoreAt.set_loads))
    · rfl
  · (repeat (with_reducible first | exact World.grownBy.refl _ _ | assumption | apply grown_drew | apply grown_drewN | apply grown_alloc | apply grown_set))
set_option maxRecDepth 100000 in
set_option maxHeartbeats 1000000 in
theorem load_4 {p : Nat} {s : Core} (k : Int) (t : Bool) (b : UInt8) (w : World) (hC : CoreAt p s w) (hg : group s.e.op = 4) :
    Calls Tryz.prog 146 #[.pointer (some ⟨p, 0, none⟩), .agg #[.int .i64 k, .bool t], .int .u8 (b.toNat : Int)] w fun e w' => e = .returned (.tuple #[]) ∧ CoreAt p ({ s with word := Sp.wide (change s.e.op b s.r.cc).1, r := { s.r with cc := (change s.e.op b s.r.cc).2.1 } }) w' ∧ w.grownBy w' (some p) := by
  have hC0 := Lib.hid hC
  have hlt := hC.lt
  have e1 := plus1_e
  have e2 := wide_e
  have e3 := join_e
  have HG := Lib.hid (fun W => group_t s.e.op W)
  obtain ⟨ring, qa, lA, lc, hI⟩ := id hC; have F := core_facts hI
  clear hI hC
  rw [hg] at HG
  clear hg
  have HE := Lib.hid (fun W => change_t s.e.op b s.r.cc W)
  obtain ⟨⟨r8, c8, is⟩, hx⟩ : ∃ x, change s.e.op b s.r.cc = x := ⟨_, rfl⟩
  rw [hx] at HE ⊢
  clear hx
  go_enter Tryz.func146, Tryz.ntmps146
  go_wp2_with (first | (go_at_call 170; refine (HG.out _).mono ?_; rintro e w1 ⟨rfl, rfl⟩))
  have hW := (hC0.out.set_word (joinW s.word b)).alloc (.cells #[.int .i64 k, .bool t] 202)
  have hgW := grown_alloc w (grown_set w (World.grownBy.refl w (some p)) 68 (.int .u16 ((joinW s.word b).toNat : Int))) (.cells #[.int .i64 k, .bool t] 202)
  generalize (w.setCell ⟨p, 68, none⟩ (.int .u16 ((joinW s.word b).toNat : Int))).alloc (.cells #[.int .i64 k, .bool t] 202) = w1 at *
  have hltW := hW.lt
  have hWh := Lib.hid hW
  clear F
  obtain ⟨ring1, qa1, lA1, lc1, hI1⟩ := id hW; have F1 := core_facts hI1
  clear hI1 hW
  go_region_held3 (fun W => W.cell? ⟨p, 61, none⟩ = some (.int .i64 s.e.op) ∧ W.cell? ⟨p, 3, none⟩ = some (.int .u8 (s.r.cc.toNat : Int))) (first | (go_keep; done) | assumption | (simp [*, set_far, World.cell?_alloc_some, World.cell?_setCell_far]; done) | exact ⟨(hbE.cell (p := ⟨p, 61, none⟩) hltW).trans (by go_keep), (hbE.cell (p := ⟨p, 3, none⟩) hltW).trans (by go_keep)⟩) (first | (go_at_call 172; refine (HE.out _).mono ?_; rintro e wE ⟨rfl, hbE⟩; obtain ⟨hc_hbE, hf_hbE, hz_hbE⟩ := bcells hbE))
  have hC2 := CoreAt.below (hWh.out.drew) hbE
  have hg2 := grown_then (grown_drew w hgW) (grown_of_below hbE (some p))
  clear F1
  obtain ⟨ring2, qa2, lA2, lc2, hI2⟩ := id hC2; have F2 := core_facts hI2
  clear hI2
  have hlt2 := hC2.lt
  have hC2h := Lib.hid hC2
  clear hbE hc_hbE hf_hbE hz_hbE hC2
  go_wp2
  first | go_end0 | refine bodyPost_ret (results_none rfl _ _ _) rfl ?_
  refine ⟨rfl, CoreAt.of ?_, ?_⟩
  · apply Exists.intro
    refine ⟨?_, ?_⟩
    · (repeat (with_reducible first | exact hC2h.out | apply CoreAt.drew | apply CoreAt.drewN | apply CoreAt.alloc | apply CoreAt.set_a | apply CoreAt.set_b | apply CoreAt.set_dp | apply CoreAt.set_cc | apply CoreAt.set_x | apply CoreAt.set_y | apply CoreAt.set_u | apply CoreAt.set_s | apply CoreAt.set_pc | apply CoreAt.set_kind | apply CoreAt.set_page | apply CoreAt.set_op | apply CoreAt.set_mode | apply CoreAt.set_reg | apply CoreAt.set_post | apply CoreAt.set_args | apply CoreAt.set_value | apply CoreAt.set_ea | apply CoreAt.set_word | apply CoreAt.set_ptr | apply CoreAt.set_stack | apply CoreAt.set_pushed | apply CoreAt.set_then_ | apply CoreAt.set_vector | apply CoreAt.set_whole | apply CoreAt.set_loads))
    · rfl
  · (repeat (with_reducible first | exact World.grownBy.refl _ _ | assumption | apply grown_drew | apply grown_drewN | apply grown_alloc | apply grown_set))
set_option maxRecDepth 100000 in
set_option maxHeartbeats 1000000 in
theorem load_5 {p : Nat} {s : Core} (k : Int) (t : Bool) (b : UInt8) (w : World) (hC : CoreAt p s w) (hg : group s.e.op = 5) :
    Calls Tryz.prog 146 #[.pointer (some ⟨p, 0, none⟩), .agg #[.int .i64 k, .bool t], .int .u8 (b.toNat : Int)] w fun e w' => e = .returned (.tuple #[]) ∧ CoreAt p (if t then { s with word := joinW s.word b, ea := plusW s.ea 1 } else ({ s with word := joinW s.word b } : Core).sixteen (joinW s.word b)) w' ∧ w.grownBy w' (some p) := by
  have hC0 := Lib.hid hC
  have hlt := hC.lt
  have e1 := plus1_e
  have e2 := wide_e
  have e3 := join_e
  have HG := Lib.hid (fun W => group_t s.e.op W)
  obtain ⟨ring, qa, lA, lc, hI⟩ := id hC; have F := core_facts hI
  clear hI hC
  rw [hg] at HG
  clear hg
  have HE := Lib.hid (fun (W : World) (h : CoreAt p { s with word := joinW s.word b } W) => sixteen_t (joinW s.word b) W h)
  cases t
  · go_enter Tryz.func146, Tryz.ntmps146
    go_wp2_with (first | (go_at_call 170; refine (HG.out _).mono ?_; rintro e w1 ⟨rfl, rfl⟩))
    have hW := (hC0.out.set_word (joinW s.word b)).alloc (.cells #[.int .i64 k, .bool false] 202)
    have hgW := grown_alloc w (grown_set w (World.grownBy.refl w (some p)) 68 (.int .u16 ((joinW s.word b).toNat : Int))) (.cells #[.int .i64 k, .bool false] 202)
    refine (HE.out _ hW).mono ?_
    rintro e wS ⟨rfl, hCS, hgS⟩
    go_wp2
    first | go_end0 | refine bodyPost_ret (results_none rfl _ _ _) rfl ?_
    exact ⟨rfl, hCS, grown_then hgW hgS⟩
  · go_enter Tryz.func146, Tryz.ntmps146
    go_wp2_with (first | (go_at_call 170; refine (HG.out _).mono ?_; rintro e w1 ⟨rfl, rfl⟩))
    first | go_end0 | refine bodyPost_ret (results_none rfl _ _ _) rfl ?_
    refine ⟨rfl, CoreAt.of ?_, ?_⟩
    · apply Exists.intro
      refine ⟨?_, ?_⟩
      · (repeat (with_reducible first | exact hC0.out | apply CoreAt.drew | apply CoreAt.drewN | apply CoreAt.alloc | apply CoreAt.set_a | apply CoreAt.set_b | apply CoreAt.set_dp | apply CoreAt.set_cc | apply CoreAt.set_x | apply CoreAt.set_y | apply CoreAt.set_u | apply CoreAt.set_s | apply CoreAt.set_pc | apply CoreAt.set_kind | apply CoreAt.set_page | apply CoreAt.set_op | apply CoreAt.set_mode | apply CoreAt.set_reg | apply CoreAt.set_post | apply CoreAt.set_args | apply CoreAt.set_value | apply CoreAt.set_ea | apply CoreAt.set_word | apply CoreAt.set_ptr | apply CoreAt.set_stack | apply CoreAt.set_pushed | apply CoreAt.set_then_ | apply CoreAt.set_vector | apply CoreAt.set_whole | apply CoreAt.set_loads))
      · rfl
    · (repeat (with_reducible first | exact World.grownBy.refl _ _ | assumption | apply grown_drew | apply grown_drewN | apply grown_alloc | apply grown_set))
set_option maxRecDepth 100000 in
set_option maxHeartbeats 1000000 in
theorem load_7 {p : Nat} {s : Core} (k : Int) (t : Bool) (b : UInt8) (w : World) (hC : CoreAt p s w) (hg : group s.e.op = 7) :
    Calls Tryz.prog 146 #[.pointer (some ⟨p, 0, none⟩), .agg #[.int .i64 k, .bool t], .int .u8 (b.toNat : Int)] w fun e w' => e = .returned (.tuple #[]) ∧ CoreAt p (if t then { s with word := joinW s.word b, ea := plusW s.ea 1 } else ({ s with word := joinW s.word b } : Core).sixteen (joinW s.word b)) w' ∧ w.grownBy w' (some p) := by
  have hC0 := Lib.hid hC
  have hlt := hC.lt
  have e1 := plus1_e
  have e2 := wide_e
  have e3 := join_e
  have HG := Lib.hid (fun W => group_t s.e.op W)
  obtain ⟨ring, qa, lA, lc, hI⟩ := id hC; have F := core_facts hI
  clear hI hC
  rw [hg] at HG
  clear hg
  have HE := Lib.hid (fun (W : World) (h : CoreAt p { s with word := joinW s.word b } W) => sixteen_t (joinW s.word b) W h)
  cases t
  · go_enter Tryz.func146, Tryz.ntmps146
    go_wp2_with (first | (go_at_call 170; refine (HG.out _).mono ?_; rintro e w1 ⟨rfl, rfl⟩))
    have hW := (hC0.out.set_word (joinW s.word b)).alloc (.cells #[.int .i64 k, .bool false] 202)
    have hgW := grown_alloc w (grown_set w (World.grownBy.refl w (some p)) 68 (.int .u16 ((joinW s.word b).toNat : Int))) (.cells #[.int .i64 k, .bool false] 202)
    refine (HE.out _ hW).mono ?_
    rintro e wS ⟨rfl, hCS, hgS⟩
    go_wp2
    first | go_end0 | refine bodyPost_ret (results_none rfl _ _ _) rfl ?_
    exact ⟨rfl, hCS, grown_then hgW hgS⟩
  · go_enter Tryz.func146, Tryz.ntmps146
    go_wp2_with (first | (go_at_call 170; refine (HG.out _).mono ?_; rintro e w1 ⟨rfl, rfl⟩))
    first | go_end0 | refine bodyPost_ret (results_none rfl _ _ _) rfl ?_
    refine ⟨rfl, CoreAt.of ?_, ?_⟩
    · apply Exists.intro
      refine ⟨?_, ?_⟩
      · (repeat (with_reducible first | exact hC0.out | apply CoreAt.drew | apply CoreAt.drewN | apply CoreAt.alloc | apply CoreAt.set_a | apply CoreAt.set_b | apply CoreAt.set_dp | apply CoreAt.set_cc | apply CoreAt.set_x | apply CoreAt.set_y | apply CoreAt.set_u | apply CoreAt.set_s | apply CoreAt.set_pc | apply CoreAt.set_kind | apply CoreAt.set_page | apply CoreAt.set_op | apply CoreAt.set_mode | apply CoreAt.set_reg | apply CoreAt.set_post | apply CoreAt.set_args | apply CoreAt.set_value | apply CoreAt.set_ea | apply CoreAt.set_word | apply CoreAt.set_ptr | apply CoreAt.set_stack | apply CoreAt.set_pushed | apply CoreAt.set_then_ | apply CoreAt.set_vector | apply CoreAt.set_whole | apply CoreAt.set_loads))
      · rfl
    · (repeat (with_reducible first | exact World.grownBy.refl _ _ | assumption | apply grown_drew | apply grown_drewN | apply grown_alloc | apply grown_set))
set_option maxRecDepth 100000 in
set_option maxHeartbeats 1000000 in
theorem load_0 {p : Nat} {s : Core} (k : Int) (t : Bool) (b : UInt8) (w : World) (hC : CoreAt p s w) (h1 : group s.e.op ≠ 1) (h3 : group s.e.op ≠ 3) (h4 : group s.e.op ≠ 4) (h5 : group s.e.op ≠ 5) (h7 : group s.e.op ≠ 7) :
    Calls Tryz.prog 146 #[.pointer (some ⟨p, 0, none⟩), .agg #[.int .i64 k, .bool t], .int .u8 (b.toNat : Int)] w fun e w' => e = .returned (.tuple #[]) ∧ CoreAt p ({ s with word := joinW s.word b }) w' ∧ w.grownBy w' (some p) := by
  have hC0 := Lib.hid hC
  have hlt := hC.lt
  have e1 := plus1_e
  have e2 := wide_e
  have e3 := join_e
  have HG := Lib.hid (fun W => group_t s.e.op W)
  obtain ⟨ring, qa, lA, lc, hI⟩ := id hC; have F := core_facts hI
  clear hI hC
  generalize group s.e.op = g at *
  have b1 : (g == 1) = false := beq_eq_false_iff_ne.mpr h1
  have b3 : (g == 3) = false := beq_eq_false_iff_ne.mpr h3
  have b4 : (g == 4) = false := beq_eq_false_iff_ne.mpr h4
  have b5 : (g == 5) = false := beq_eq_false_iff_ne.mpr h5
  have b7 : (g == 7) = false := beq_eq_false_iff_ne.mpr h7
  go_enter Tryz.func146, Tryz.ntmps146
  go_wp2_with (first | (go_at_call 170; refine (HG.out _).mono ?_; rintro e w1 ⟨rfl, rfl⟩))
  first | go_end0 | refine bodyPost_ret (results_none rfl _ _ _) rfl ?_
  refine ⟨rfl, CoreAt.of ?_, ?_⟩
  · apply Exists.intro
    refine ⟨?_, ?_⟩
    · (repeat (with_reducible first | exact hC0.out | apply CoreAt.drew | apply CoreAt.drewN | apply CoreAt.alloc | apply CoreAt.set_a | apply CoreAt.set_b | apply CoreAt.set_dp | apply CoreAt.set_cc | apply CoreAt.set_x | apply CoreAt.set_y | apply CoreAt.set_u | apply CoreAt.set_s | apply CoreAt.set_pc | apply CoreAt.set_kind | apply CoreAt.set_page | apply CoreAt.set_op | apply CoreAt.set_mode | apply CoreAt.set_reg | apply CoreAt.set_post | apply CoreAt.set_args | apply CoreAt.set_value | apply CoreAt.set_ea | apply CoreAt.set_word | apply CoreAt.set_ptr | apply CoreAt.set_stack | apply CoreAt.set_pushed | apply CoreAt.set_then_ | apply CoreAt.set_vector | apply CoreAt.set_whole | apply CoreAt.set_loads))
    · rfl
  · (repeat (with_reducible first | exact World.grownBy.refl _ _ | assumption | apply grown_drew | apply grown_drewN | apply grown_alloc | apply grown_set))
set_option maxRecDepth 100000 in
set_option maxHeartbeats 1000000 in
theorem load_t {p : Nat} {s : Core} (k : Int) (t : Bool) (b : UInt8) (w : World) (hC : CoreAt p s w) :
    Calls Tryz.prog 146 #[.pointer (some ⟨p, 0, none⟩), .agg #[.int .i64 k, .bool t], .int .u8 (b.toNat : Int)] w fun e w' => e = .returned (.tuple #[]) ∧ CoreAt p (s.load ⟨k, t⟩ b) w' ∧ w.grownBy w' (some p) := by
  have e : s.load ⟨k, t⟩ b = (if group s.e.op = 1 then ({ s with word := joinW s.word b } : Core).eight b
      else if group s.e.op = 3 ∨ group s.e.op = 4 then { s with word := Sp.wide (change s.e.op b s.r.cc).1, r := { s.r with cc := (change s.e.op b s.r.cc).2.1 } }
      else if group s.e.op = 5 ∨ group s.e.op = 7 then (if t then { s with word := joinW s.word b, ea := plusW s.ea 1 } else ({ s with word := joinW s.word b } : Core).sixteen (joinW s.word b))
      else { s with word := joinW s.word b }) := rfl
  rw [e]
  by_cases h1 : group s.e.op = 1
  · rw [if_pos h1]; exact load_1 k t b w hC h1
  rw [if_neg h1]
  by_cases h3 : group s.e.op = 3
  · rw [if_pos (.inl h3)]; exact load_3 k t b w hC h3
  by_cases h4 : group s.e.op = 4
  · rw [if_pos (.inr h4)]; exact load_4 k t b w hC h4
  rw [if_neg (by omega)]
  by_cases h5 : group s.e.op = 5
  · rw [if_pos (.inl h5)]; exact load_5 k t b w hC h5
  by_cases h7 : group s.e.op = 7
  · rw [if_pos (.inr h7)]; exact load_7 k t b w hC h7
  rw [if_neg (by omega)]
  exact load_0 k t b w hC h1 h3 h4 h5 h7
end Go.Proofs.YtkdaphkpllgmbaaGreat
namespace Go.Proofs.YtkdaphkpllgmbaaGreat
open Go.RowKit Sp
set_option linter.unusedVariables false
attribute [local go_sem] Sp.Regs.v Sp.Regs.cells
set_option maxRecDepth 100000 in
set_option maxHeartbeats 1000000 in
theorem Byte_t (r : Regs) (reg : Int) (high : Bool) (w : World) :
    Calls Tryz.prog 117 #[r.v, .agg #[.int .i64 reg, .bool high]] w fun e w' => e = .returned (.int .u8 ((r.byte ⟨reg, high⟩).toNat : Int)) ∧ Below w.heap.size w w' := by
  cases high
  all_goals
    go_enter Tryz.func117, Tryz.ntmps117
    go_wp2_with (first | (go_at_call 143; refine (Get_any (w.heap.size + 1 + 1) 200 r [] reg _ (Blk.newAt _ _ #[.int .u8 (r.a.toNat : Int), .int .u8 (r.b.toNat : Int), .int .u8 (r.dp.toNat : Int), .int .u8 (r.cc.toNat : Int), .int .u16 (r.x.toNat : Int), .int .u16 (r.y.toNat : Int), .int .u16 (r.u.toNat : Int), .int .u16 (r.s.toNat : Int), .int .u16 (r.pc.toNat : Int)] _ (by simp))).mono ?_; rintro e w2 ⟨rfl, n, rfl⟩) | (go_at_call 29; refine (High_t _ _).mono ?_; rintro e w1 ⟨rfl, rfl⟩) | (go_at_call 30; refine (Low_t _ _).mono ?_; rintro e w1 ⟨rfl, rfl⟩))
    go_ret
    exact ⟨rfl, below_drewN (below_alloc (below_alloc (below_alloc (Below.refl _ _) _) _) _) n⟩
set_option maxRecDepth 100000 in
set_option maxHeartbeats 1000000 in
theorem With_t (r : Regs) (reg : Int) (high : Bool) (b : UInt8) (w : World) :
    Calls Tryz.prog 174 #[r.v, .agg #[.int .i64 reg, .bool high], .int .u8 (b.toNat : Int)] w fun e w' => e = .returned ((r.put ⟨reg, high⟩ b).v) ∧ Below w.heap.size w w' := by
  cases high
  · obtain ⟨q, hq⟩ : ∃ q, r.set reg (word (hi (r.get reg)) b) = q := ⟨_, rfl⟩
    rw [show r.put ⟨reg, false⟩ b = q from hq]
    have HQ := Lib.hid hq
    clear hq
    go_enter Tryz.func174, Tryz.ntmps174
    go_wp2_with fail
    refine (Get_any (w.heap.size + 1 + 1 + 1) 200 r [] reg _ (Blk.newAt _ _ #[.int .u8 (r.a.toNat : Int), .int .u8 (r.b.toNat : Int), .int .u8 (r.dp.toNat : Int), .int .u8 (r.cc.toNat : Int), .int .u16 (r.x.toNat : Int), .int .u16 (r.y.toNat : Int), .int .u16 (r.u.toNat : Int), .int .u16 (r.s.toNat : Int), .int .u16 (r.pc.toNat : Int)] _ (by simp))).mono ?_
    rintro e w2 ⟨rfl, n, hw2⟩
    have BF : Blk w2 (w.heap.size + 1 + 1 + 1) 200 #[.int .u8 (r.a.toNat : Int), .int .u8 (r.b.toNat : Int), .int .u8 (r.dp.toNat : Int), .int .u8 (r.cc.toNat : Int), .int .u16 (r.x.toNat : Int), .int .u16 (r.y.toNat : Int), .int .u16 (r.u.toNat : Int), .int .u16 (r.s.toNat : Int), .int .u16 (r.pc.toNat : Int)] := by rw [hw2]; exact (Blk.newAt _ _ _ _ (by simp)).drewN n
    have BP : Blk w2 (w.heap.size + 1) 219 #[.int .i64 reg, .bool false] := by rw [hw2]; exact (((Blk.newAt _ _ _ _ (by simp)).alloc _).alloc _).drewN n
    have BO : Blk w2 (w.heap.size + 1 + 1) 39 #[.int .u8 0, .int .u8 0, .int .u8 0, .int .u8 0, .int .u16 0, .int .u16 0, .int .u16 0, .int .u16 0, .int .u16 0] := by rw [hw2]; exact ((Blk.newAt _ _ _ _ (by simp)).alloc _).drewN n
    have hbb : Below w.heap.size w w2 := by rw [hw2]; exact below_drewN (below_alloc (below_alloc (below_alloc (below_alloc (Below.refl _ _) _) _) _) _) n
    clear hw2
    have p0 := BP.cell 0
    have p1 := BP.cell 1
    have hz := BF.lt
    go_wp2
    go_region_held3 (fun w' => w'.cell? ⟨w.heap.size + 1, 0, none⟩ = some (.int .i64 reg)) (first | (go_keep; done)) (first | (go_at_call 29; refine (High_t _ _).mono ?_; rintro e w1 ⟨rfl, rfl⟩) | (go_at_call 161; refine (Word_t _ _ _).mono ?_; rintro e w1 ⟨rfl, rfl⟩) | (go_at_call 147; refine (Set_any (w.heap.size + 1 + 1 + 1) 200 r [] reg _ _ BF.drew).mono ?_; rintro e w3 ⟨rfl, B3, hg3⟩; have k3 := hg3.cell (a := ⟨w.heap.size + 1, 0, none⟩) (v := .int .i64 reg) (BP.drew.cell 0) (by intro h; injection h with h; dsimp only at h; omega)))
    all_goals
      rw [HQ.out] at B3
      have BO3 := Blk.grown BO.drew hg3 (by intro h; injection h with h; omega)
      have hb3 := hbb.drew.grown hg3 hbb.size (by intro k hk; injection hk with hk; omega)
      have F3 := LBlk9 B3
      have F2 := LBlk9 BO3
      have FE := Lib.hid BO3
      clear B3 hg3 BO3 BO BF BP p0 p1
      go_wp2
      have BR := Blk.set9 FE.out (.int .u8 (q.a.toNat : Int)) (.int .u8 (q.b.toNat : Int)) (.int .u8 (q.dp.toNat : Int)) (.int .u8 (q.cc.toNat : Int)) (.int .u16 (q.x.toNat : Int)) (.int .u16 (q.y.toNat : Int)) (.int .u16 (q.u.toNat : Int)) (.int .u16 (q.s.toNat : Int)) (.int .u16 (q.pc.toNat : Int))
      refine bodyPost_ret (v := .agg #[.int .u8 (q.a.toNat : Int), .int .u8 (q.b.toNat : Int), .int .u8 (q.dp.toNat : Int), .int .u8 (q.cc.toNat : Int), .int .u16 (q.x.toNat : Int), .int .u16 (q.y.toNat : Int), .int .u16 (q.u.toNat : Int), .int .u16 (q.s.toNat : Int), .int .u16 (q.pc.toNat : Int)]) ?_ rfl ⟨rfl, ?_⟩
      · exact (results_cell_row rfl _ _ (w.heap.size + 1 + 1) 39 #[.int .u8 (q.a.toNat : Int), .int .u8 (q.b.toNat : Int), .int .u8 (q.dp.toNat : Int), .int .u8 (q.cc.toNat : Int), .int .u16 (q.x.toNat : Int), .int .u16 (q.y.toNat : Int), .int .u16 (q.u.toNat : Int), .int .u16 (q.s.toNat : Int), .int .u16 (q.pc.toNat : Int)] (0, 0) _ rfl BR Tryz.underlying39 rfl (by kernel_rfl)).trans rfl
      · have hle : w.heap.size ≤ w.heap.size + 1 + 1 := by omega
        exact Below.set9 hb3 hle _ _ _ _ _ _ _ _ _
  · obtain ⟨q, hq⟩ : ∃ q, r.set reg (word b (lo (r.get reg))) = q := ⟨_, rfl⟩
    rw [show r.put ⟨reg, true⟩ b = q from hq]
    have HQ := Lib.hid hq
    clear hq
    go_enter Tryz.func174, Tryz.ntmps174
    go_wp2_with fail
    refine (Get_any (w.heap.size + 1 + 1 + 1) 200 r [] reg _ (Blk.newAt _ _ #[.int .u8 (r.a.toNat : Int), .int .u8 (r.b.toNat : Int), .int .u8 (r.dp.toNat : Int), .int .u8 (r.cc.toNat : Int), .int .u16 (r.x.toNat : Int), .int .u16 (r.y.toNat : Int), .int .u16 (r.u.toNat : Int), .int .u16 (r.s.toNat : Int), .int .u16 (r.pc.toNat : Int)] _ (by simp))).mono ?_
    rintro e w2 ⟨rfl, n, hw2⟩
    have BF : Blk w2 (w.heap.size + 1 + 1 + 1) 200 #[.int .u8 (r.a.toNat : Int), .int .u8 (r.b.toNat : Int), .int .u8 (r.dp.toNat : Int), .int .u8 (r.cc.toNat : Int), .int .u16 (r.x.toNat : Int), .int .u16 (r.y.toNat : Int), .int .u16 (r.u.toNat : Int), .int .u16 (r.s.toNat : Int), .int .u16 (r.pc.toNat : Int)] := by rw [hw2]; exact (Blk.newAt _ _ _ _ (by simp)).drewN n
    have BP : Blk w2 (w.heap.size + 1) 219 #[.int .i64 reg, .bool true] := by rw [hw2]; exact (((Blk.newAt _ _ _ _ (by simp)).alloc _).alloc _).drewN n
    have BO : Blk w2 (w.heap.size + 1 + 1) 39 #[.int .u8 0, .int .u8 0, .int .u8 0, .int .u8 0, .int .u16 0, .int .u16 0, .int .u16 0, .int .u16 0, .int .u16 0] := by rw [hw2]; exact ((Blk.newAt _ _ _ _ (by simp)).alloc _).drewN n
    have hbb : Below w.heap.size w w2 := by rw [hw2]; exact below_drewN (below_alloc (below_alloc (below_alloc (below_alloc (Below.refl _ _) _) _) _) _) n
    clear hw2
    have p0 := BP.cell 0
    have p1 := BP.cell 1
    have hz := BF.lt
    go_wp2
    go_region_held3 (fun w' => w'.cell? ⟨w.heap.size + 1, 0, none⟩ = some (.int .i64 reg)) (first | (go_keep; done)) (first | (go_at_call 30; refine (Low_t _ _).mono ?_; rintro e w1 ⟨rfl, rfl⟩) | (go_at_call 161; refine (Word_t _ _ _).mono ?_; rintro e w1 ⟨rfl, rfl⟩) | (go_at_call 147; refine (Set_any (w.heap.size + 1 + 1 + 1) 200 r [] reg _ _ BF.drew).mono ?_; rintro e w3 ⟨rfl, B3, hg3⟩; have k3 := hg3.cell (a := ⟨w.heap.size + 1, 0, none⟩) (v := .int .i64 reg) (BP.drew.cell 0) (by intro h; injection h with h; dsimp only at h; omega)))
    all_goals
      rw [HQ.out] at B3
      have BO3 := Blk.grown BO.drew hg3 (by intro h; injection h with h; omega)
      have hb3 := hbb.drew.grown hg3 hbb.size (by intro k hk; injection hk with hk; omega)
      have F3 := LBlk9 B3
      have F2 := LBlk9 BO3
      have FE := Lib.hid BO3
      clear B3 hg3 BO3 BO BF BP p0 p1
      go_wp2
      have BR := Blk.set9 FE.out (.int .u8 (q.a.toNat : Int)) (.int .u8 (q.b.toNat : Int)) (.int .u8 (q.dp.toNat : Int)) (.int .u8 (q.cc.toNat : Int)) (.int .u16 (q.x.toNat : Int)) (.int .u16 (q.y.toNat : Int)) (.int .u16 (q.u.toNat : Int)) (.int .u16 (q.s.toNat : Int)) (.int .u16 (q.pc.toNat : Int))
      refine bodyPost_ret (v := .agg #[.int .u8 (q.a.toNat : Int), .int .u8 (q.b.toNat : Int), .int .u8 (q.dp.toNat : Int), .int .u8 (q.cc.toNat : Int), .int .u16 (q.x.toNat : Int), .int .u16 (q.y.toNat : Int), .int .u16 (q.u.toNat : Int), .int .u16 (q.s.toNat : Int), .int .u16 (q.pc.toNat : Int)]) ?_ rfl ⟨rfl, ?_⟩
      · exact (results_cell_row rfl _ _ (w.heap.size + 1 + 1) 39 #[.int .u8 (q.a.toNat : Int), .int .u8 (q.b.toNat : Int), .int .u8 (q.dp.toNat : Int), .int .u8 (q.cc.toNat : Int), .int .u16 (q.x.toNat : Int), .int .u16 (q.y.toNat : Int), .int .u16 (q.u.toNat : Int), .int .u16 (q.s.toNat : Int), .int .u16 (q.pc.toNat : Int)] (0, 0) _ rfl BR Tryz.underlying39 rfl (by kernel_rfl)).trans rfl
      · have hle : w.heap.size ≤ w.heap.size + 1 + 1 := by omega
        exact Below.set9 hb3 hle _ _ _ _ _ _ _ _ _
end Go.Proofs.YtkdaphkpllgmbaaGreat

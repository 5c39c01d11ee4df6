/-
  Contracts of the core's small methods.
  Contracts of the core's eight, sixteen, immediate, load.
-/
import Derived.Test.YtkdaphkpllgmbaaGreatM10
import Derived.Test.YtkdaphkpllgmbaaGreatM11
import Derived.Test.YtkdaphkpllgmbaaGreatM04
import Derived.Outline
import Derived.Deep.RegionHeld3
import Derived.Test.YtkdaphkpllgmbaaGreatM07
namespace Go.Proofs.YtkdaphkpllgmbaaGreat
open Go.RowKit Sp
set_option linter.unusedVariables false
theorem CoreAt.of {p : Nat} {s : Core} {w : World} (h : ∃ s0, CoreAt p s0 w ∧ s0 = s) : CoreAt p s w := by obtain ⟨s0, h, rfl⟩ := h; exact h
theorem own_cap {w : World} {base : Nat} {e : TypeId} {size n c : Nat} {A : Option Addr} {xs : List Value} (h : w.ownsRow base e size (.slice A n c) n xs) : n ≤ c := by
  obtain ⟨A', c', h1, _, h2, _⟩ := own_reads h
  injection h1 with _ _ h3
  omega
theorem set_far (w : World) (g j k : Nat) (u : Value) (h : k ≠ j) : (w.setCell ⟨g, j, none⟩ u).cell? ⟨g, k, none⟩ = w.cell? ⟨g, k, none⟩ := by
  apply World.cell?_setCell_other
  intro e
  injection e with _ e _
  exact h e.symm
theorem minus1_e (a : UInt16) : IntKind.u16.wrap ((a.toNat : Int) - 1) = ((minusW a 1).toNat : Int) := minus16 a 1
theorem plus1_e (a : UInt16) : IntKind.u16.wrap ((a.toNat : Int) + 1) = ((plusW a 1).toNat : Int) := plus16 a 1
theorem wide_e (b : UInt8) : IntKind.u16.wrap (b.toNat : Int) = ((Sp.wide b).toNat : Int) := up b
theorem join_e (v : UInt16) (b : UInt8) : Go.bits .or .u16 (IntKind.u16.wrap ((v.toNat : Int) * (256 : Int))) ((Sp.wide b).toNat : Int) = ((joinW v b).toNat : Int) := by
  rw [show IntKind.u16.wrap ((v.toNat : Int) * (256 : Int)) = ((v <<< 8).toNat : Int) from by rw [wrap16, UInt16.toNat_shiftLeft]; simp [Nat.shiftLeft_eq]]
  exact or16w _ _
set_option maxRecDepth 100000 in
set_option maxHeartbeats 1000000 in
theorem top_t {p : Nat} {s : Core}  (w : World) (hC : CoreAt p s w) :
    Calls Tryz.prog 116 #[.pointer (some ⟨p, 0, none⟩)] w fun e w' => e = .returned (.int .u16 (s.top.toNat : Int)) ∧ ∃ n, w' = w.drewN n := by
  have HG := Lib.hid (fun n => Get_core s.stack _ (hC.drewN n))
  obtain ⟨ring, qa, lA, lc, hI⟩ := id hC; have F := core_facts hI
  clear hI hC
  rw [show s.top = s.r.get s.stack from rfl]
  generalize s.r.get s.stack = G at *
  go_enter Tryz.func116, Tryz.ntmps116
  go_wp2
  go_quiet ((go_at_call 143; exact Calls.quiet_of (HG.out _)))
  go_wp2
  go_ret
  exact ⟨rfl, _, rfl⟩
set_option maxRecDepth 100000 in
set_option maxHeartbeats 1000000 in
theorem Active_t {p : Nat} {s : Core}  (w : World) (hC : CoreAt p s w) :
    Calls Tryz.prog 110 #[.pointer (some ⟨p, 0, none⟩)] w fun e w' => e = .returned (.bool (!s.q.isEmpty)) ∧ w = w' := by
  have HL := Lib.hid (Len_core w hC)
  have hq : decide (0 < (s.q.length : Int)) = !s.q.isEmpty := by cases s.q <;> simp <;> omega
  generalize (s.q.length : Int) = L at *
  go_enter Tryz.func110, Tryz.ntmps110
  go_wp2_with ((go_at_call 136; refine HL.out.mono ?_; rintro e w1 ⟨rfl, rfl⟩))
  go_ret
  exact ⟨by rw [← hq]; rfl, rfl⟩
set_option maxRecDepth 100000 in
set_option maxHeartbeats 1000000 in
theorem pointer_t {p : Nat} {s : Core} (k : Int) (b : Bool) (i : UInt8) (w : World) (hC : CoreAt p s w) :
    Calls Tryz.prog 149 #[.pointer (some ⟨p, 0, none⟩), .agg #[.int .i64 k, .bool b], .int .u8 (i.toNat : Int)] w fun e w' => e = .returned (.tuple #[]) ∧ CoreAt p (s.pointer ⟨k, b⟩ i) w' ∧ w.grownBy w' (some p) := by
  have hC0 := Lib.hid hC
  have hlt := hC.lt
  have e1 := plus1_e
  have e2 := wide_e
  have e3 := join_e
  obtain ⟨ring, qa, lA, lc, hI⟩ := id hC; have F := core_facts hI
  clear hI hC
  cases b
  · by_cases hk : k = 12
    · subst hk
      go_enter Tryz.func149, Tryz.ntmps149
      go_wp2
      first | go_end0 | refine bodyPost_ret (results_none rfl _ _ _) rfl ?_
      refine ⟨rfl, CoreAt.of ?_, ?_⟩
      · apply Exists.intro
        refine ⟨?_, ?_⟩
        · (repeat (with_reducible first | exact hC0.out | apply CoreAt.drew | apply CoreAt.drewN | apply CoreAt.alloc | apply CoreAt.set_a | apply CoreAt.set_b | apply CoreAt.set_dp | apply CoreAt.set_cc | apply CoreAt.set_x | apply CoreAt.set_y | apply CoreAt.set_u | apply CoreAt.set_s | apply CoreAt.set_pc | apply CoreAt.set_kind | apply CoreAt.set_page | apply CoreAt.set_op | apply CoreAt.set_mode | apply CoreAt.set_reg | apply CoreAt.set_post | apply CoreAt.set_args | apply CoreAt.set_value | apply CoreAt.set_ea | apply CoreAt.set_word | apply CoreAt.set_ptr | apply CoreAt.set_stack | apply CoreAt.set_pushed | apply CoreAt.set_then_ | apply CoreAt.set_vector | apply CoreAt.set_whole | apply CoreAt.set_loads))
        · rfl
      · (repeat (with_reducible first | exact World.grownBy.refl _ _ | assumption | apply grown_drew | apply grown_drewN | apply grown_alloc | apply grown_set))
    · have ek : (k == 12) = false := beq_eq_false_iff_ne.mpr hk
      rw [show s.pointer ⟨k, false⟩ i = { s with ea := joinW s.ptr i } from by simp [Core.pointer, hk]]
      go_enter Tryz.func149, Tryz.ntmps149
      go_wp2
      first | go_end0 | refine bodyPost_ret (results_none rfl _ _ _) rfl ?_
      refine ⟨rfl, CoreAt.of ?_, ?_⟩
      · apply Exists.intro
        refine ⟨?_, ?_⟩
        · (repeat (with_reducible first | exact hC0.out | apply CoreAt.drew | apply CoreAt.drewN | apply CoreAt.alloc | apply CoreAt.set_a | apply CoreAt.set_b | apply CoreAt.set_dp | apply CoreAt.set_cc | apply CoreAt.set_x | apply CoreAt.set_y | apply CoreAt.set_u | apply CoreAt.set_s | apply CoreAt.set_pc | apply CoreAt.set_kind | apply CoreAt.set_page | apply CoreAt.set_op | apply CoreAt.set_mode | apply CoreAt.set_reg | apply CoreAt.set_post | apply CoreAt.set_args | apply CoreAt.set_value | apply CoreAt.set_ea | apply CoreAt.set_word | apply CoreAt.set_ptr | apply CoreAt.set_stack | apply CoreAt.set_pushed | apply CoreAt.set_then_ | apply CoreAt.set_vector | apply CoreAt.set_whole | apply CoreAt.set_loads))
        · rfl
      · (repeat (with_reducible first | exact World.grownBy.refl _ _ | assumption | apply grown_drew | apply grown_drewN | apply grown_alloc | apply grown_set))
  · go_enter Tryz.func149, Tryz.ntmps149
    go_wp2
    first | go_end0 | refine bodyPost_ret (results_none rfl _ _ _) rfl ?_
    refine ⟨rfl, CoreAt.of ?_, ?_⟩
    · apply Exists.intro
      refine ⟨?_, ?_⟩
      · (repeat (with_reducible first | exact hC0.out | apply CoreAt.drew | apply CoreAt.drewN | apply CoreAt.alloc | apply CoreAt.set_a | apply CoreAt.set_b | apply CoreAt.set_dp | apply CoreAt.set_cc | apply CoreAt.set_x | apply CoreAt.set_y | apply CoreAt.set_u | apply CoreAt.set_s | apply CoreAt.set_pc | apply CoreAt.set_kind | apply CoreAt.set_page | apply CoreAt.set_op | apply CoreAt.set_mode | apply CoreAt.set_reg | apply CoreAt.set_post | apply CoreAt.set_args | apply CoreAt.set_value | apply CoreAt.set_ea | apply CoreAt.set_word | apply CoreAt.set_ptr | apply CoreAt.set_stack | apply CoreAt.set_pushed | apply CoreAt.set_then_ | apply CoreAt.set_vector | apply CoreAt.set_whole | apply CoreAt.set_loads))
      · rfl
    · (repeat (with_reducible first | exact World.grownBy.refl _ _ | assumption | apply grown_drew | apply grown_drewN | apply grown_alloc | apply grown_set))
end Go.Proofs.YtkdaphkpllgmbaaGreat
namespace Go.Proofs.YtkdaphkpllgmbaaGreat
open Go.RowKit Sp
set_option linter.unusedVariables false
set_option linter.unusedSimpArgs false
attribute [local go_sem] Sp.Enter.v Sp.Enter.cells
set_option maxRecDepth 100000 in
set_option maxHeartbeats 1000000 in
theorem eight_t {p : Nat} {s : Core} (b : UInt8) (w : World) (hC : CoreAt p s w) :
    Calls Tryz.prog 171 #[.pointer (some ⟨p, 0, none⟩), .int .u8 (b.toNat : Int)] w fun e w' => e = .returned (.tuple #[]) ∧ CoreAt p (s.eight b) w' ∧ w.grownBy w' (some p) := by
  have hC0 := Lib.hid hC
  have hlt := hC.lt
  have e2 := wide_e
  obtain ⟨⟨r8, c8, is⟩, hx⟩ : ∃ x, alu8 s.e.op (lo (s.r.get s.e.reg)) b s.r.cc = x := ⟨_, rfl⟩
  have HE := Lib.hid (fun W => alu8_t s.e.op (lo (s.r.get s.e.reg)) b s.r.cc W)
  rw [show s.eight b = { s with r := if (alu8 s.e.op (lo (s.r.get s.e.reg)) b s.r.cc).2.2 then ({ s.r with cc := (alu8 s.e.op (lo (s.r.get s.e.reg)) b s.r.cc).2.1 } : Regs).set s.e.reg (Sp.wide (alu8 s.e.op (lo (s.r.get s.e.reg)) b s.r.cc).1) else { s.r with cc := (alu8 s.e.op (lo (s.r.get s.e.reg)) b s.r.cc).2.1 } } from rfl]
  rw [hx] at HE ⊢
  clear hx
  obtain ⟨ring, qa, lA, lc, hI⟩ := id hC; have F := core_facts hI
  clear hI hC
  go_enter Tryz.func171, Tryz.ntmps171
  go_wp2
  go_region_held3 (fun W => W.cell? ⟨p, 61, none⟩ = some (.int .i64 s.e.op) ∧ W.cell? ⟨p, 63, none⟩ = some (.int .i64 s.e.reg) ∧ W.cell? ⟨p, 3, none⟩ = some (.int .u8 (s.r.cc.toNat : Int))) (first | (go_keep; done) | assumption | (simp [*, set_far, World.cell?_alloc_some, World.cell?_setCell_far]; done) | exact ⟨(hbE.cell (p := ⟨p, 61, none⟩) hlt).trans (by go_keep), (hbE.cell (p := ⟨p, 63, none⟩) hlt).trans (by go_keep), (hbE.cell (p := ⟨p, 3, none⟩) hlt).trans (by go_keep)⟩) (first | (go_at_call 143; refine (Get_core _ _ (CoreAt.below hC0.out (by repeat (first | exact Below.refl _ _ | apply below_alloc | apply Below.drew | apply below_drewN | (refine below_then ?_ (by assumption)))))).mono ?_; rintro e w1 ⟨rfl, n, rfl⟩) | (go_at_call 30; refine (Low_t _ _).mono ?_; rintro e w1 ⟨rfl, rfl⟩) | (go_at_call 202; refine (HE.out _).mono ?_; rintro e wE ⟨rfl, hbE⟩; obtain ⟨hc_hbE, hf_hbE, hz_hbE⟩ := bcells hbE))
  have hbt : Below w.heap.size w wE := (by repeat (first | exact Below.refl _ _ | apply below_alloc | apply Below.drew | apply below_drewN | (refine below_then ?_ (by assumption))))
  have hC1 := hC0.out.below hbt
  have hg1 := grown_of_below hbt (some p)
  clear F
  obtain ⟨ring1, qa1, lA1, lc1, hI1⟩ := id hC1; have F1 := core_facts hI1
  clear hI1
  have hlt1 := hC1.lt
  have hC2 := Lib.hid (hC1.set_cc c8)
  have hC1h := Lib.hid hC1
  clear hbE hc_hbE hf_hbE hz_hbE hbt hC1
  cases is
  · go_wp2
    first | go_end0 | refine bodyPost_ret (results_none rfl _ _ _) rfl ?_
    refine ⟨rfl, CoreAt.of ?_, ?_⟩
    · apply Exists.intro
      refine ⟨?_, ?_⟩
      · (repeat (with_reducible first | exact hC1h.out | apply CoreAt.drew | apply CoreAt.drewN | apply CoreAt.alloc | apply CoreAt.set_a | apply CoreAt.set_b | apply CoreAt.set_dp | apply CoreAt.set_cc | apply CoreAt.set_x | apply CoreAt.set_y | apply CoreAt.set_u | apply CoreAt.set_s | apply CoreAt.set_pc | apply CoreAt.set_kind | apply CoreAt.set_page | apply CoreAt.set_op | apply CoreAt.set_mode | apply CoreAt.set_reg | apply CoreAt.set_post | apply CoreAt.set_args | apply CoreAt.set_value | apply CoreAt.set_ea | apply CoreAt.set_word | apply CoreAt.set_ptr | apply CoreAt.set_stack | apply CoreAt.set_pushed | apply CoreAt.set_then_ | apply CoreAt.set_vector | apply CoreAt.set_whole | apply CoreAt.set_loads))
      · rfl
    · (repeat (with_reducible first | exact World.grownBy.refl _ _ | assumption | apply grown_drew | apply grown_drewN | apply grown_alloc | apply grown_set))
  · go_wp2
    go_region_held3 (fun W => W.cell? ⟨p, 63, none⟩ = some (.int .i64 s.e.reg)) (first | (go_keep; done) | assumption | (simp [*, set_far, World.cell?_alloc_some, World.cell?_setCell_far]; done)) (first | (go_at_call 147; refine (Set_core _ _ _ (CoreAt.below hC2.out (by repeat (first | exact Below.refl _ _ | apply below_alloc | apply Below.drew | apply below_drewN | (refine below_then ?_ (by assumption)))))).mono ?_; rintro e wS ⟨rfl, hCS, hgS⟩; have kS_reg := hCS.c_reg))
    go_wp2
    first | go_end0 | refine bodyPost_ret (results_none rfl _ _ _) rfl ?_
    exact ⟨rfl, hCS, grown_then (grown_drew w (grown_set w hg1 _ _)) hgS⟩
set_option maxRecDepth 100000 in
set_option maxHeartbeats 1000000 in
theorem sixteen_t {p : Nat} {s : Core} (v : UInt16) (w : World) (hC : CoreAt p s w) :
    Calls Tryz.prog 173 #[.pointer (some ⟨p, 0, none⟩), .int .u16 (v.toNat : Int)] w fun e w' => e = .returned (.tuple #[]) ∧ CoreAt p (s.sixteen v) w' ∧ w.grownBy w' (some p) := by
  have hC0 := Lib.hid hC
  have hlt := hC.lt
  obtain ⟨⟨r8, c8, is⟩, hx⟩ : ∃ x, alu16 s.e.op (s.r.get s.e.reg) v s.r.cc = x := ⟨_, rfl⟩
  have HE := Lib.hid (fun W => alu16_t s.e.op (s.r.get s.e.reg) v s.r.cc W)
  rw [show s.sixteen v = (if (alu16 s.e.op (s.r.get s.e.reg) v s.r.cc).2.2 then { s with r := ({ s.r with cc := (alu16 s.e.op (s.r.get s.e.reg) v s.r.cc).2.1 } : Regs).set s.e.reg (alu16 s.e.op (s.r.get s.e.reg) v s.r.cc).1, loads := decide (s.e.reg = 4) } else { s with r := { s.r with cc := (alu16 s.e.op (s.r.get s.e.reg) v s.r.cc).2.1 } }) from rfl]
  rw [hx] at HE ⊢
  clear hx
  obtain ⟨ring, qa, lA, lc, hI⟩ := id hC; have F := core_facts hI
  clear hI hC
  go_enter Tryz.func173, Tryz.ntmps173
  go_wp2
  go_region_held3 (fun W => W.cell? ⟨p, 61, none⟩ = some (.int .i64 s.e.op) ∧ W.cell? ⟨p, 63, none⟩ = some (.int .i64 s.e.reg) ∧ W.cell? ⟨p, 3, none⟩ = some (.int .u8 (s.r.cc.toNat : Int))) (first | (go_keep; done) | assumption | (simp [*, set_far, World.cell?_alloc_some, World.cell?_setCell_far]; done) | exact ⟨(hbE.cell (p := ⟨p, 61, none⟩) hlt).trans (by go_keep), (hbE.cell (p := ⟨p, 63, none⟩) hlt).trans (by go_keep), (hbE.cell (p := ⟨p, 3, none⟩) hlt).trans (by go_keep)⟩) (first | (go_at_call 143; refine (Get_core _ _ (CoreAt.below hC0.out (by repeat (first | exact Below.refl _ _ | apply below_alloc | apply Below.drew | apply below_drewN | (refine below_then ?_ (by assumption)))))).mono ?_; rintro e w1 ⟨rfl, n, rfl⟩) | (go_at_call 214; refine (HE.out _).mono ?_; rintro e wE ⟨rfl, hbE⟩; obtain ⟨hc_hbE, hf_hbE, hz_hbE⟩ := bcells hbE))
  have hbt : Below w.heap.size w wE := (by repeat (first | exact Below.refl _ _ | apply below_alloc | apply Below.drew | apply below_drewN | (refine below_then ?_ (by assumption))))
  have hC1 := hC0.out.below hbt
  have hg1 := grown_of_below hbt (some p)
  clear F
  obtain ⟨ring1, qa1, lA1, lc1, hI1⟩ := id hC1; have F1 := core_facts hI1
  clear hI1
  have hlt1 := hC1.lt
  have hC2 := Lib.hid (hC1.set_cc c8)
  have hC1h := Lib.hid hC1
  clear hbE hc_hbE hf_hbE hz_hbE hbt hC1
  cases is
  · go_wp2
    first | go_end0 | refine bodyPost_ret (results_none rfl _ _ _) rfl ?_
    refine ⟨rfl, CoreAt.of ?_, ?_⟩
    · apply Exists.intro
      refine ⟨?_, ?_⟩
      · (repeat (with_reducible first | exact hC1h.out | apply CoreAt.drew | apply CoreAt.drewN | apply CoreAt.alloc | apply CoreAt.set_a | apply CoreAt.set_b | apply CoreAt.set_dp | apply CoreAt.set_cc | apply CoreAt.set_x | apply CoreAt.set_y | apply CoreAt.set_u | apply CoreAt.set_s | apply CoreAt.set_pc | apply CoreAt.set_kind | apply CoreAt.set_page | apply CoreAt.set_op | apply CoreAt.set_mode | apply CoreAt.set_reg | apply CoreAt.set_post | apply CoreAt.set_args | apply CoreAt.set_value | apply CoreAt.set_ea | apply CoreAt.set_word | apply CoreAt.set_ptr | apply CoreAt.set_stack | apply CoreAt.set_pushed | apply CoreAt.set_then_ | apply CoreAt.set_vector | apply CoreAt.set_whole | apply CoreAt.set_loads))
      · rfl
    · (repeat (with_reducible first | exact World.grownBy.refl _ _ | assumption | apply grown_drew | apply grown_drewN | apply grown_alloc | apply grown_set))
  · go_wp2
    go_region_held3 (fun W => W.cell? ⟨p, 63, none⟩ = some (.int .i64 s.e.reg)) (first | (go_keep; done) | assumption | (simp [*, set_far, World.cell?_alloc_some, World.cell?_setCell_far]; done)) (first | (go_at_call 147; refine (Set_core _ _ _ (CoreAt.below hC2.out (by repeat (first | exact Below.refl _ _ | apply below_alloc | apply Below.drew | apply below_drewN | (refine below_then ?_ (by assumption)))))).mono ?_; rintro e wS ⟨rfl, hCS, hgS⟩; have kS_reg := hCS.c_reg))
    have hg2 := grown_then (grown_drew w (grown_set w hg1 3 (.int .u8 (c8.toNat : Int)))) hgS
    clear F1 kS_reg
    obtain ⟨ring2, qa2, lA2, lc2, hI2⟩ := id hCS; have F2 := core_facts hI2
    clear hI2
    have hlt2 := hCS.lt
    have hCSh := Lib.hid hCS
    clear hCS hgS hg1
    go_wp2
    first | go_end0 | refine bodyPost_ret (results_none rfl _ _ _) rfl ?_
    refine ⟨rfl, CoreAt.of ?_, ?_⟩
    · apply Exists.intro
      refine ⟨?_, ?_⟩
      · (repeat (with_reducible first | exact hCSh.out | apply CoreAt.drew | apply CoreAt.drewN | apply CoreAt.alloc | apply CoreAt.set_a | apply CoreAt.set_b | apply CoreAt.set_dp | apply CoreAt.set_cc | apply CoreAt.set_x | apply CoreAt.set_y | apply CoreAt.set_u | apply CoreAt.set_s | apply CoreAt.set_pc | apply CoreAt.set_kind | apply CoreAt.set_page | apply CoreAt.set_op | apply CoreAt.set_mode | apply CoreAt.set_reg | apply CoreAt.set_post | apply CoreAt.set_args | apply CoreAt.set_value | apply CoreAt.set_ea | apply CoreAt.set_word | apply CoreAt.set_ptr | apply CoreAt.set_stack | apply CoreAt.set_pushed | apply CoreAt.set_then_ | apply CoreAt.set_vector | apply CoreAt.set_whole | apply CoreAt.set_loads))
      · rfl
    · (repeat (with_reducible first | exact World.grownBy.refl _ _ | assumption | apply grown_drew | apply grown_drewN | apply grown_alloc | apply grown_set))
set_option maxRecDepth 100000 in
set_option maxHeartbeats 1000000 in
theorem immediate_t {p : Nat} {s : Core}  (w : World) (hC : CoreAt p s w) :
    Calls Tryz.prog 177 #[.pointer (some ⟨p, 0, none⟩)] w fun e w' => e = .returned (.tuple #[]) ∧ CoreAt p (s.immediate) w' ∧ w.grownBy w' (some p) := by
  have hC0 := Lib.hid hC
  have hlt := hC.lt
  have e1 : Go.bits .or .u8 (s.r.cc.toNat : Int) ((lo s.value).toNat : Int) = ((orB s.r.cc (lo s.value)).toNat : Int) := or8 _ _
  have e2 : Go.bits .and .u8 (s.r.cc.toNat : Int) ((lo s.value).toNat : Int) = ((andB s.r.cc (lo s.value)).toNat : Int) := and8 _ _
  have HE := Lib.hid (fun (W : World) (h : CoreAt p s W) => eight_t (lo s.value) W h)
  obtain ⟨ring, qa, lA, lc, hI⟩ := id hC; have F := core_facts hI
  clear hI hC
  by_cases h43 : s.e.op = 43
  · rw [show s.immediate = { s with r := { s.r with cc := orB s.r.cc (lo s.value) } } from by simp [Core.immediate, h43]]
    rw [h43] at F
    clear h43
    go_enter Tryz.func177, Tryz.ntmps177
    go_wp2_with (first | (go_at_call 30; refine (Low_t _ _).mono ?_; rintro e w1 ⟨rfl, rfl⟩))
    first | go_end0 | refine bodyPost_ret (results_none rfl _ _ _) rfl ?_
    refine ⟨rfl, CoreAt.of ?_, ?_⟩
    · apply Exists.intro
      refine ⟨?_, ?_⟩
      · (repeat (with_reducible first | exact hC0.out | apply CoreAt.drew | apply CoreAt.drewN | apply CoreAt.alloc | apply CoreAt.set_a | apply CoreAt.set_b | apply CoreAt.set_dp | apply CoreAt.set_cc | apply CoreAt.set_x | apply CoreAt.set_y | apply CoreAt.set_u | apply CoreAt.set_s | apply CoreAt.set_pc | apply CoreAt.set_kind | apply CoreAt.set_page | apply CoreAt.set_op | apply CoreAt.set_mode | apply CoreAt.set_reg | apply CoreAt.set_post | apply CoreAt.set_args | apply CoreAt.set_value | apply CoreAt.set_ea | apply CoreAt.set_word | apply CoreAt.set_ptr | apply CoreAt.set_stack | apply CoreAt.set_pushed | apply CoreAt.set_then_ | apply CoreAt.set_vector | apply CoreAt.set_whole | apply CoreAt.set_loads))
      · rfl
    · (repeat (with_reducible first | exact World.grownBy.refl _ _ | assumption | apply grown_drew | apply grown_drewN | apply grown_alloc | apply grown_set))
  by_cases h44 : s.e.op = 44
  · rw [show s.immediate = { s with r := { s.r with cc := andB s.r.cc (lo s.value) } } from by simp [Core.immediate, h44]]
    rw [h44] at F
    clear h44 h43
    go_enter Tryz.func177, Tryz.ntmps177
    go_wp2_with (first | (go_at_call 30; refine (Low_t _ _).mono ?_; rintro e w1 ⟨rfl, rfl⟩))
    first | go_end0 | refine bodyPost_ret (results_none rfl _ _ _) rfl ?_
    refine ⟨rfl, CoreAt.of ?_, ?_⟩
    · apply Exists.intro
      refine ⟨?_, ?_⟩
      · (repeat (with_reducible first | exact hC0.out | apply CoreAt.drew | apply CoreAt.drewN | apply CoreAt.alloc | apply CoreAt.set_a | apply CoreAt.set_b | apply CoreAt.set_dp | apply CoreAt.set_cc | apply CoreAt.set_x | apply CoreAt.set_y | apply CoreAt.set_u | apply CoreAt.set_s | apply CoreAt.set_pc | apply CoreAt.set_kind | apply CoreAt.set_page | apply CoreAt.set_op | apply CoreAt.set_mode | apply CoreAt.set_reg | apply CoreAt.set_post | apply CoreAt.set_args | apply CoreAt.set_value | apply CoreAt.set_ea | apply CoreAt.set_word | apply CoreAt.set_ptr | apply CoreAt.set_stack | apply CoreAt.set_pushed | apply CoreAt.set_then_ | apply CoreAt.set_vector | apply CoreAt.set_whole | apply CoreAt.set_loads))
      · rfl
    · (repeat (with_reducible first | exact World.grownBy.refl _ _ | assumption | apply grown_drew | apply grown_drewN | apply grown_alloc | apply grown_set))
  have b43 : (s.e.op == 43) = false := beq_eq_false_iff_ne.mpr h43
  have b44 : (s.e.op == 44) = false := beq_eq_false_iff_ne.mpr h44
  rw [show s.immediate = s.eight (lo s.value) from by simp [Core.immediate, h43, h44]]
  go_enter Tryz.func177, Tryz.ntmps177
  go_wp2_with (first | (go_at_call 30; refine (Low_t _ _).mono ?_; rintro e w1 ⟨rfl, rfl⟩) | (go_at_call 171; refine (HE.out _ hC0.out).mono ?_; rintro e wS ⟨rfl, hCS, hgS⟩))
  first | go_end0 | refine bodyPost_ret (results_none rfl _ _ _) rfl ?_
  exact ⟨rfl, hCS, hgS⟩
set_option maxRecDepth 100000 in
set_option maxHeartbeats 1000000 in
theorem into_t {p : Nat} {s : Core} (en : Enter) (push : Bool) (w : World) (hC : CoreAt p s w) :
    Calls Tryz.prog 113 #[.pointer (some ⟨p, 0, none⟩), en.v, .bool push] w fun e w' => e = .returned (.tuple #[]) ∧ CoreAt p (s.into en push) w' ∧ w.grownBy w' (some p) := by
  have hC0 := Lib.hid hC
  have hlt := hC.lt
  obtain ⟨pu, th, ve, wh⟩ := en
  obtain ⟨ring, qa, lA, lc, hI⟩ := id hC; have F := core_facts hI
  clear hI hC
  cases push
  · rw [show s.into ⟨pu, th, ve, wh⟩ false = { s with en := ⟨pu, th, ve, wh⟩, ea := ve } from rfl]
    go_enter Tryz.func113, Tryz.ntmps113
    go_wp2
    go_region
    all_goals
      go_wp2
      first | go_end0 | refine bodyPost_ret (results_none rfl _ _ _) rfl ?_
      refine ⟨rfl, CoreAt.of ?_, ?_⟩
      · apply Exists.intro
        refine ⟨?_, ?_⟩
        · (repeat (with_reducible first | exact hC0.out | apply CoreAt.drew | apply CoreAt.drewN | apply CoreAt.alloc | apply CoreAt.set_a | apply CoreAt.set_b | apply CoreAt.set_dp | apply CoreAt.set_cc | apply CoreAt.set_x | apply CoreAt.set_y | apply CoreAt.set_u | apply CoreAt.set_s | apply CoreAt.set_pc | apply CoreAt.set_kind | apply CoreAt.set_page | apply CoreAt.set_op | apply CoreAt.set_mode | apply CoreAt.set_reg | apply CoreAt.set_post | apply CoreAt.set_args | apply CoreAt.set_value | apply CoreAt.set_ea | apply CoreAt.set_word | apply CoreAt.set_ptr | apply CoreAt.set_stack | apply CoreAt.set_pushed | apply CoreAt.set_then_ | apply CoreAt.set_vector | apply CoreAt.set_whole | apply CoreAt.set_loads))
        · rfl
      · (repeat (with_reducible first | exact World.grownBy.refl _ _ | assumption | apply grown_drew | apply grown_drewN | apply grown_alloc | apply grown_set))
  · have HP := Lib.hid (fun W => Parts_t wh W)
    go_enter Tryz.func113, Tryz.ntmps113
    go_wp2
    go_region
    go_wp2
    have hC1 := (((((((hC0.out.set_pushed pu).set_then_ th).set_vector ve).set_whole wh).set_ea ve).alloc (.cells #[.int .u8 (pu.toNat : Int), .int .u8 (th.toNat : Int), .int .u16 (ve.toNat : Int), .bool wh] 207)).drew)
    have hg1 : w.grownBy (((((((w.setCell ⟨p, 72, none⟩ (.int .u8 (pu.toNat : Int))).setCell ⟨p, 73, none⟩ (.int .u8 (th.toNat : Int))).setCell ⟨p, 74, none⟩ (.int .u16 (ve.toNat : Int))).setCell ⟨p, 75, none⟩ (.bool wh)).setCell ⟨p, 67, none⟩ (.int .u16 (ve.toNat : Int))).alloc (.cells #[.int .u8 (pu.toNat : Int), .int .u8 (th.toNat : Int), .int .u16 (ve.toNat : Int), .bool wh] 207)).drew) (some p) := by (repeat (with_reducible first | exact World.grownBy.refl _ _ | assumption | apply grown_drew | apply grown_drewN | apply grown_alloc | apply grown_set))
    have hB1 : Blk (((((((w.setCell ⟨p, 72, none⟩ (.int .u8 (pu.toNat : Int))).setCell ⟨p, 73, none⟩ (.int .u8 (th.toNat : Int))).setCell ⟨p, 74, none⟩ (.int .u16 (ve.toNat : Int))).setCell ⟨p, 75, none⟩ (.bool wh)).setCell ⟨p, 67, none⟩ (.int .u16 (ve.toNat : Int))).alloc (.cells #[.int .u8 (pu.toNat : Int), .int .u8 (th.toNat : Int), .int .u16 (ve.toNat : Int), .bool wh] 207)).drew) w.heap.size 207 #[.int .u8 (pu.toNat : Int), .int .u8 (th.toNat : Int), .int .u16 (ve.toNat : Int), .bool wh] := (Blk.newAt _ _ _ _ (by simp)).drew
    generalize (((((((w.setCell ⟨p, 72, none⟩ (.int .u8 (pu.toNat : Int))).setCell ⟨p, 73, none⟩ (.int .u8 (th.toNat : Int))).setCell ⟨p, 74, none⟩ (.int .u16 (ve.toNat : Int))).setCell ⟨p, 75, none⟩ (.bool wh)).setCell ⟨p, 67, none⟩ (.int .u16 (ve.toNat : Int))).alloc (.cells #[.int .u8 (pu.toNat : Int), .int .u8 (th.toNat : Int), .int .u16 (ve.toNat : Int), .bool wh] 207)).drew) = w1 at *
    have hC1h := Lib.hid hC1
    have hlt1 := hC1.lt
    have hltB := hB1.lt
    have hpB : p ≠ w.heap.size := by omega
    have q0 := hB1.cell 0
    have q3 := hB1.cell 3
    simp only [List.getElem?_toArray, List.getElem?_cons_zero, List.getElem?_cons_succ] at q0 q3
    clear F hC1 hB1
    go_region_held3 (fun W => W.cell? ⟨w.heap.size, 0, none⟩ = some (.int .u8 (pu.toNat : Int)) ∧ W.cell? ⟨w.heap.size, 3, none⟩ = some (.bool wh))
      (first | (go_keep; done) | exact ⟨(hbP.cell (p := ⟨w.heap.size, 0, none⟩) hltB).trans (by go_keep), (hbP.cell (p := ⟨w.heap.size, 3, none⟩) hltB).trans (by go_keep)⟩)
      (first | (go_at_call 138; refine (HP.out _).mono ?_; rintro e w2 ho; obtain ⟨lA, lc, rfl, hown, hbP⟩ := ho.open_; clear ho; have hC2 := CoreAt.below (hC1h.out.drew) hbP; obtain ⟨ring2, qa2, lA2, lc2, hI2⟩ := id hC2; have F2 := core_facts hI2))
    all_goals
      go_wp2
      first | go_end0 | refine bodyPost_ret (results_none rfl _ _ _) rfl ?_
      refine ⟨rfl, CoreAt.congr ((hC2.set_cc pu).set_list lA lc (partsOf wh) ((ListOk.own hown).far hI2.blk core_part 3 _) (own_cap hown)) rfl, ?_⟩
      exact grown_set w (grown_set w (grown_then (grown_drew w hg1) (grown_of_below hbP _)) _ _) _ _
end Go.Proofs.YtkdaphkpllgmbaaGreat

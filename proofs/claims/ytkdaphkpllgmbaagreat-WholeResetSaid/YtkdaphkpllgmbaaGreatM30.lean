/-
  Contracts of file.Tfr, file.Exg at the core.
-/
import Derived.Test.YtkdaphkpllgmbaaGreatM12
import Derived.Test.YtkdaphkpllgmbaaGreatM21
namespace Go.Proofs.YtkdaphkpllgmbaaGreat
open Go.RowKit Sp
set_option linter.unusedVariables false
set_option linter.unusedSimpArgs false
set_option maxRecDepth 100000 in
set_option maxHeartbeats 1000000 in
theorem Tfr_case {p : Nat} {s : Core} (x L M : Int) (w : World) (hC : CoreAt p s w) (hL : Go.bits .and .u8 x 15 = L) (hM : x / 16 = M) (l0 : 0 ≤ L) (l1 : L < 16) (m0 : 0 ≤ M) (m1 : M < 16) :
    Calls Tryz.prog 179 #[.pointer (some ⟨p, 0, none⟩), .int .u8 x] w fun e w' => e = .returned (.bool (L == 4)) ∧ CoreAt p { s with r := s.r.set L (s.r.get M) } w' ∧ w.grownBy w' (some p) := by
  have hC0 := Lib.hid hC
  have hlt := hC.lt
  clear hC
  go_enter Tryz.func179, Tryz.ntmps179
  go_wp2_with fail
  refine (Get_core M _ hC0.out).mono ?_
  rintro e w1 ⟨rfl, n, rfl⟩
  go_wp2_with fail
  refine (Set_core L _ _ (hC0.out.drewN n)).mono ?_
  rintro e wS ⟨rfl, hCS, hgS⟩
  go_wp2
  go_ret
  exact ⟨rfl, hCS, grown_then (grown_drewN w (World.grownBy.refl _ _) n) hgS⟩
theorem Tfr_core {p : Nat} {s : Core} (b : UInt8) (w : World) (hC : CoreAt p s w) :
    Calls Tryz.prog 179 #[.pointer (some ⟨p, 0, none⟩), .int .u8 (b.toNat : Int)] w fun e w' => e = .returned (.bool (decide (loN b = 4))) ∧ CoreAt p { s with r := s.r.tfr b } w' ∧ w.grownBy w' (some p) :=
  Tfr_case (b.toNat : Int) (loN b) (hiN b) w hC (loN_e b) (hiN_e b) (loN_lt b).1 (loN_lt b).2 (hiN_lt b).1 (hiN_lt b).2
set_option maxRecDepth 100000 in
set_option maxHeartbeats 1000000 in
theorem Exg_case {p : Nat} {s : Core} (x L M : Int) (w : World) (hC : CoreAt p s w) (hL : Go.bits .and .u8 x 15 = L) (hM : x / 16 = M) (l0 : 0 ≤ L) (l1 : L < 16) (m0 : 0 ≤ M) (m1 : M < 16) :
    Calls Tryz.prog 180 #[.pointer (some ⟨p, 0, none⟩), .int .u8 x] w fun e w' => e = .returned (.bool (decide (M = 4) || decide (L = 4))) ∧ CoreAt p { s with r := (s.r.set L (s.r.get M)).set M (s.r.get L) } w' ∧ w.grownBy w' (some p) := by
  have hC0 := Lib.hid hC
  have hlt := hC.lt
  clear hC
  by_cases h4 : M = 4
  · have b4 : (M == 4) = true := beq_iff_eq.mpr h4
    rw [show (decide (M = 4) || decide (L = 4)) = true from by simp [h4]]
    clear h4
    go_enter Tryz.func180, Tryz.ntmps180
    go_wp2_with fail
    refine (Get_core M _ hC0.out).mono ?_
    rintro e w1 ⟨rfl, n, rfl⟩
    go_wp2_with fail
    refine (Get_core L _ (hC0.out.drewN n)).mono ?_
    rintro e w1 ⟨rfl, n2, rfl⟩
    go_wp2_with fail
    refine (Set_core L _ _ (CoreAt.below hC0.out (by repeat (first | exact Below.refl _ _ | apply below_alloc | apply Below.drew | apply below_drewN | (refine below_then ?_ (by assumption)))))).mono ?_
    rintro e wS ⟨rfl, hCS, hgS⟩
    go_wp2_with fail
    refine (Set_core M _ _ hCS).mono ?_
    rintro e wT ⟨rfl, hCT, hgT⟩
    go_wp2
    go_ret
    exact ⟨rfl, hCT, grown_then (grown_then (show w.grownBy _ (some p) from by (repeat (with_reducible first | exact World.grownBy.refl _ _ | assumption | apply grown_drew | apply grown_drewN | apply grown_alloc | apply grown_set))) hgS) hgT⟩
  · have b4 : (M == 4) = false := beq_eq_false_iff_ne.mpr h4
    rw [show (decide (M = 4) || decide (L = 4)) = (L == 4) from by simp [h4]; rfl]
    clear h4
    go_enter Tryz.func180, Tryz.ntmps180
    go_wp2_with fail
    refine (Get_core M _ hC0.out).mono ?_
    rintro e w1 ⟨rfl, n, rfl⟩
    go_wp2_with fail
    refine (Get_core L _ (hC0.out.drewN n)).mono ?_
    rintro e w1 ⟨rfl, n2, rfl⟩
    go_wp2_with fail
    refine (Set_core L _ _ (CoreAt.below hC0.out (by repeat (first | exact Below.refl _ _ | apply below_alloc | apply Below.drew | apply below_drewN | (refine below_then ?_ (by assumption)))))).mono ?_
    rintro e wS ⟨rfl, hCS, hgS⟩
    go_wp2_with fail
    refine (Set_core M _ _ hCS).mono ?_
    rintro e wT ⟨rfl, hCT, hgT⟩
    go_wp2
    go_ret
    exact ⟨rfl, hCT, grown_then (grown_then (show w.grownBy _ (some p) from by (repeat (with_reducible first | exact World.grownBy.refl _ _ | assumption | apply grown_drew | apply grown_drewN | apply grown_alloc | apply grown_set))) hgS) hgT⟩
theorem Exg_core {p : Nat} {s : Core} (b : UInt8) (w : World) (hC : CoreAt p s w) :
    Calls Tryz.prog 180 #[.pointer (some ⟨p, 0, none⟩), .int .u8 (b.toNat : Int)] w fun e w' => e = .returned (.bool (decide (hiN b = 4) || decide (loN b = 4))) ∧ CoreAt p { s with r := s.r.exg b } w' ∧ w.grownBy w' (some p) :=
  Exg_case (b.toNat : Int) (loN b) (hiN b) w hC (loN_e b) (hiN_e b) (loN_lt b).1 (loN_lt b).2 (hiN_lt b).1 (hiN_lt b).2
end Go.Proofs.YtkdaphkpllgmbaaGreat

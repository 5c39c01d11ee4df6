/-
  WholeReset: for every shape, world and script of at most 150 cycles (for another one the law answers at once) the law returns true: RESET and three cycles lead to the address at FFFE, with F and I on and DP 0; no other register has turned. Conditions: none.
-/
import Derived.Test.YtkdaphkpllgmbaaGreatRows
import Derived.Test.YtkdaphkpllgmbaaGreatM40
import Derived.WalkKit
import Derived.ProofKit
import Derived.OpenShut
import Derived.SizedLaws
namespace Go.Proofs.YtkdaphkpllgmbaaGreat.wholeReset
open Go.ChangeShapes Go.WideShapes Go.ChangeAt Go.RowKit
set_option linter.unusedVariables false
theorem own : ownKnob Tryz.prog.godebug = none := by kernel_rfl
theorem laidOut : laidOutB Tryz.prog = true := by kernel_rfl
theorem readable : (Tryz.f4.params.toList.all fun t => Tryz.prog.readableRec t && decide (t < Tryz.prog.types.size)) = true := by kernel_rfl
set_option maxRecDepth 100000 in
theorem lifted (os : Os) (started : os.Started) (H : Type) (enc : TypeId × Value → H) :
    ReturnsInHanded {} Tryz.checked os 4 .any (Rows.wholeResetSpec.pre6 enc Tryz.prog Tryz.f4 Rows.wholeResetRow.domain false) (Rows.wholeResetSpec.post enc Tryz.prog Tryz.f4 false true false false) := by
  refine returnsInHanded_of_change_sized (C := Tryz.checked) own started (by kernel_rfl) Tryz.func4
    (ChangeSpec.witness6 (enc := enc) (C := Tryz.checked) false ⟨#[], #[.agg #[.int .i64 0, .int .i64 0], .agg #[.slice none 0 0, .slice none 0 0], .slice none 0 0], []⟩ 8 (by kernel_rfl) (by kernel_rfl) (by kernel_rfl) (by kernel_rfl)) ?_
  intro W base args ds gs before hval0 hW hcnd hsz0 _
  have hval : ∀ (j : Nat) t v, Tryz.f4.params[j]? = some t → args[j]? = some v → Value.okWide Tryz.prog W .any base t v := hval0
  have hW' := hW
  obtain ⟨p, q, hA0, hV, rfl, hfz, hnd⟩ := hW
  have hA : DataW.TrodAll enc Tryz.prog W 0 (fun _ => true) true Tryz.f4.params.toList args.toList ds p := hA0
  rw [Tryz.params4] at hA hval
  obtain ⟨v0, vs0, d0, ds0, p0, q0, hargs, rfl, rfl, h0, r0⟩ := trodAll_cons hA
  obtain ⟨v1, vs1, d1, ds1, p1, q1, rfl, rfl, rfl, h1, r1⟩ := trodAll_cons r0
  obtain ⟨v2, vs2, d2, ds2, p2, q2, rfl, rfl, rfl, h2, r2⟩ := trodAll_cons r1
  obtain ⟨rfl, rfl, rfl⟩ := trodAll_nil r2
  obtain rfl : args = #[v0, v1, v2] := by cases args; simp_all
  obtain ⟨rfl, rfl⟩ := trodVars_none hV
  obtain ⟨a0, rfl, g0⟩ := open1_struct Tryz.underlying23 (dec_Config W) (hval 0 23 v0 rfl rfl) h0
  obtain ⟨a1, rfl, g1⟩ := open1_struct Tryz.underlying26 (dec_LWorld W) (hval 1 26 v1 rfl rfl) h1
  obtain ⟨a2, rfl, g2⟩ := open1_slice (size := 6) Tryz.underlying27 (by kernel_rfl) (by decide) (Pins.cells_len) (dec_Pins W) (hval 2 27 v2 rfl rfl) h2
  refine (WholeReset_walk W a0 g0 a1 g1 a2 g2).mono fun e W' ⟨he, bel⟩ => ?_
  subst he
  exact ⟨_, rfl, _, _, _, [], _, [], hW', trodAll_mk1 (shut_bool Tryz.underlying4 _), all_below laidOut bel readable hA0, rfl, bel.frame _, fun h => by cases h⟩
theorem over : Rows.wholeResetRow.holds Tryz.pinned (OpenSpec.ofChange Rows.wholeResetSpec) :=
  OpenClaim.holds_of_wide 4 Tryz.f4 rfl rfl rfl rfl rfl rfl rfl ⟨rfl, rfl, rfl, rfl, rfl⟩ rfl rfl rfl rfl rfl (by kernel_rfl) Tryz.func4 (by kernel_rfl)
    (of_decide_eq_true (by kernel_rfl)) (by unfold Func.isWrapper; first | (rw [if_pos (by decide +kernel)]; kernel_rfl) | (rw [if_neg (by decide +kernel)]; exact ⟨rfl, rfl⟩))
    (fun os started H enc _ => lifted os started H enc)
end Go.Proofs.YtkdaphkpllgmbaaGreat.wholeReset
namespace Go.Proofs.YtkdaphkpllgmbaaGreat
/-- The statement. -/
theorem wholeReset_holds : Rows.WholeResetSaid := wholeReset.over
#print axioms wholeReset_holds
end Go.Proofs.YtkdaphkpllgmbaaGreat

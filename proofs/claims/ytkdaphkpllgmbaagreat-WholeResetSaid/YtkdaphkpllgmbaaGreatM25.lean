/-
  Contract of the core's ready.
-/
import Derived.Test.YtkdaphkpllgmbaaGreatM12
import Derived.Test.YtkdaphkpllgmbaaGreatM08
import Derived.Deep.RegionWith
import Derived.Deep.CutBlock
import Derived.StillTailTactics
namespace Go.Proofs.YtkdaphkpllgmbaaGreat
open Go.RowKit Sp
set_option linter.unusedVariables false
set_option linter.unusedSimpArgs false
attribute [local go_sem] Sp.Regs.v Sp.Regs.cells Sp.Post.v Sp.Post.cells
theorem ready1_e (s : Core) : s.ready1.e = s.e := by
  unfold Core.ready1
  dsimp only
  repeat' split
  all_goals rfl
theorem With_128d (cc : UInt8) (on : Bool) (t : TypeId) (w : World) (g : Nat) (hg : w.heap.size = g) :
    Calls Tryz.prog 137 #[.int .u8 (cc.toNat : Int), .bool on, .slice (some ⟨g, 0, none⟩) 1 1] (w.alloc (.cells #[.int .u8 128] t)).drew fun e w' => e = .returned (.int .u8 ((wb on cc 128).toNat : Int)) ∧ (w.alloc (.cells #[.int .u8 128] t)).drew = w' := With_128 cc on t w.drew g hg
set_option maxRecDepth 100000 in
set_option maxHeartbeats 60000000 in
theorem ready_b {p : Nat} {s : Core}  (w : World) (hC : CoreAt p s w) (hm : s.e.mode = 1) (hop : s.e.op = 41) :
    Calls Tryz.prog 169 #[.pointer (some ⟨p, 0, none⟩)] w fun e w' => e = .returned (.tuple #[]) ∧ CoreAt p (s.ready) w' ∧ w.grownBy w' (some p) := by
  have hC0 := Lib.hid hC
  have hlt := hC.lt
  have HR := Lib.hid (show s.ready = { s with r := { s.r with cc := wb true (andB s.r.cc (lo s.value)) 128 }, list := partsOf true } from by unfold Core.ready; rw [show s.ready1 = s from by unfold Core.ready1; simp [hm]]; unfold Core.ready2; simp [hop])
  have ea : Go.bits .and .u8 (s.r.cc.toNat : Int) ((lo s.value).toNat : Int) = ((andB s.r.cc (lo s.value)).toNat : Int) := and8 _ _
  obtain ⟨ring, qa, lA, lc, hI⟩ := id hC; have F := core_facts hI
  rw [hm, hop] at F
  clear hI hC hm hop
  go_enter Tryz.func169, Tryz.ntmps169
  go_wp2
  go_region_with ((first | (go_at_call 30; refine (Low_t _ _).mono ?_; rintro e w1 ⟨rfl, rfl⟩) | (go_at_call 137; with_reducible refine (With_128d _ _ _ _ _ ?hg).mono ?_; (case hg => first | rfl | (simp; done)); rintro e wE ⟨rfl, rfl⟩)))
  all_goals
    go_wp2_with fail
    refine (Parts_t true _).mono ?_
    rintro e w7 ho
    obtain ⟨oA7, oc7, rfl, hown7, hb7⟩ := ho.open_
    clear ho
    have hC8 : CoreAt p { s with r := { s.r with cc := wb true (andB s.r.cc (lo s.value)) 128 } } w7 := CoreAt.below (by (repeat (with_reducible first | exact hC0.out | apply CoreAt.drew | apply CoreAt.drewN | apply CoreAt.alloc | apply CoreAt.set_a | apply CoreAt.set_b | apply CoreAt.set_dp | apply CoreAt.set_cc | apply CoreAt.set_x | apply CoreAt.set_y | apply CoreAt.set_u | apply CoreAt.set_s | apply CoreAt.set_pc | apply CoreAt.set_kind | apply CoreAt.set_page | apply CoreAt.set_op | apply CoreAt.set_mode | apply CoreAt.set_reg | apply CoreAt.set_post | apply CoreAt.set_args | apply CoreAt.set_value | apply CoreAt.set_ea | apply CoreAt.set_word | apply CoreAt.set_ptr | apply CoreAt.set_stack | apply CoreAt.set_pushed | apply CoreAt.set_then_ | apply CoreAt.set_vector | apply CoreAt.set_whole | apply CoreAt.set_loads))) hb7
    have hg8 : w.grownBy w7 (some p) := grown_then (by (repeat (with_reducible first | exact World.grownBy.refl _ _ | assumption | apply grown_drew | apply grown_drewN | apply grown_alloc | apply grown_set))) (grown_of_below hb7 (some p))
    clear F
    obtain ⟨ring8, qa8, lA8, lc8, hI8⟩ := id hC8; have F8 := core_facts hI8
    clear hI8
    have hlt8 := hC8.lt
    have hC9 := Lib.hid (CoreAt.set_list hC8 oA7 oc7 _ (ListOk.own hown7) (own_cap hown7))
    have hg9 := Lib.hid (grown_set w hg8 70 (.slice oA7 (partsOf true).length oc7))
    clear hC8 hg8 hown7 hb7
    go_wp2
    first | go_end0 | refine bodyPost_ret (results_none rfl _ _ _) rfl ?_
    rw [HR.out]
    exact ⟨rfl, CoreAt.congr hC9.out rfl, hg9.out⟩
end Go.Proofs.YtkdaphkpllgmbaaGreat

/-
  The walk of the law EdgeSteps: for every latch and level it returns true.
-/
import Derived.Test.YtgebopmiefgdoaaEdge
import Derived.Test.YtgebopmiefgdoaaDec
import Derived.WalkKit
import Derived.WalkSpells
import Derived.KernelRfl
import Derived.Deep.Draws
import Derived.Deep.QuietTactic
import Derived.BigQuiet
import Derived.RowKit3
import Derived.Lib.Hide
import Derived.Deep.RegionHeld3
namespace Go.Proofs.Ytgebopmiefgdoaa
open Go.RowKit
set_option maxHeartbeats 4000000 in
theorem EdgeSteps_A (w : World) (a b lv : Bool) :
    Calls Try.prog 6 #[.agg #[.bool a, .bool b, .bool true], .bool lv] w fun e w' => e = .returned (.bool true) ∧ Below w.heap.size w w' := by
  go_enter Try.func6, Try.ntmps6
  go_wp2_with fail
  go_region_held3 (fun w' => w'.cell? ⟨w.heap.size, 0, none⟩ = some (.bool a) ∧ w'.cell? ⟨w.heap.size, 1, none⟩ = some (.bool b) ∧ w'.cell? ⟨w.heap.size, 2, none⟩ = some (.bool true) ∧ w'.cell? ⟨w.heap.size + 1, 0, none⟩ = some (.bool lv) ∧ w'.cell? ⟨w.heap.size + 1, 1, none⟩ = some (.bool b) ∧ w'.cell? ⟨w.heap.size + 1, 2, none⟩ = some (.bool (true)) ∧ w.heap.size < w'.heap.size ∧ w.heap.size + 1 < w'.heap.size) (((try dsimp only); (repeat' apply And.intro) <;> first | omega | (go_keep; done) | (simp; omega)))
    (first | (go_at_call 28; refine (Sample_any _ _ _ _ _).mono ?_; rintro e w1 ⟨rfl, hb⟩; have hz := hb.size; obtain ⟨hcc, hff⟩ := bcell hb; have q1 := fun o => hcc w.heap.size o (by first | omega | (simp; omega)); have q2 := fun o => hcc (w.heap.size + 1) o (by first | omega | (simp; omega)); clear hcc hff) | (go_at_call 29; refine (Arm_any _ _ _ _).mono ?_; rintro e w1 ⟨rfl, hb⟩; have hz := hb.size; obtain ⟨hcc, hff⟩ := bcell hb; have q1 := fun o => hcc w.heap.size o (by first | omega | (simp; omega)); have q2 := fun o => hcc (w.heap.size + 1) o (by first | omega | (simp; omega)); clear hcc hff) | (go_at_call 30; refine (Take_any _ _ _ _).mono ?_; rintro e w1 ⟨rfl, hb⟩; have hz := hb.size; obtain ⟨hcc, hff⟩ := bcell hb; have q1 := fun o => hcc w.heap.size o (by first | omega | (simp; omega)); have q2 := fun o => hcc (w.heap.size + 1) o (by first | omega | (simp; omega)); clear hcc hff) | (go_at_call 31; refine (Reset_any _ _ _ _).mono ?_; rintro e w1 ⟨rfl, hb⟩; have hz := hb.size; obtain ⟨hcc, hff⟩ := bcell hb; have q1 := fun o => hcc w.heap.size o (by first | omega | (simp; omega)); have q2 := fun o => hcc (w.heap.size + 1) o (by first | omega | (simp; omega)); clear hcc hff) | (go_at_call 27; refine (alive28 _).mono ?_; rintro e w1 ⟨rfl, hb⟩; have hz := hb.size; obtain ⟨hcc, hff⟩ := bcell hb; have q1 := fun o => hcc w.heap.size o (by first | omega | (simp; omega)); have q2 := fun o => hcc (w.heap.size + 1) o (by first | omega | (simp; omega)); clear hcc hff))
  go_wp2
  go_ret
  exact ⟨rfl, by repeat (first | exact Below.refl _ _ | apply below_alloc | apply Below.drew | (refine below_then ?_ (by assumption)))⟩
set_option maxHeartbeats 4000000 in
theorem EdgeSteps_B (w : World) (a lv : Bool) :
    Calls Try.prog 6 #[.agg #[.bool a, .bool false, .bool false], .bool lv] w fun e w' => e = .returned (.bool true) ∧ Below w.heap.size w w' := by
  go_enter Try.func6, Try.ntmps6
  go_wp2_with fail
  go_region_held3 (fun w' => w'.cell? ⟨w.heap.size, 0, none⟩ = some (.bool a) ∧ w'.cell? ⟨w.heap.size, 1, none⟩ = some (.bool false) ∧ w'.cell? ⟨w.heap.size, 2, none⟩ = some (.bool false) ∧ w'.cell? ⟨w.heap.size + 1, 0, none⟩ = some (.bool lv) ∧ w'.cell? ⟨w.heap.size + 1, 1, none⟩ = some (.bool false) ∧ w'.cell? ⟨w.heap.size + 1, 2, none⟩ = some (.bool (false)) ∧ w.heap.size < w'.heap.size ∧ w.heap.size + 1 < w'.heap.size) (((try dsimp only); (repeat' apply And.intro) <;> first | omega | (go_keep; done) | (simp; omega)))
    (first | (go_at_call 28; refine (Sample_any _ _ _ _ _).mono ?_; rintro e w1 ⟨rfl, hb⟩; have hz := hb.size; obtain ⟨hcc, hff⟩ := bcell hb; have q1 := fun o => hcc w.heap.size o (by first | omega | (simp; omega)); have q2 := fun o => hcc (w.heap.size + 1) o (by first | omega | (simp; omega)); clear hcc hff) | (go_at_call 29; refine (Arm_any _ _ _ _).mono ?_; rintro e w1 ⟨rfl, hb⟩; have hz := hb.size; obtain ⟨hcc, hff⟩ := bcell hb; have q1 := fun o => hcc w.heap.size o (by first | omega | (simp; omega)); have q2 := fun o => hcc (w.heap.size + 1) o (by first | omega | (simp; omega)); clear hcc hff) | (go_at_call 30; refine (Take_any _ _ _ _).mono ?_; rintro e w1 ⟨rfl, hb⟩; have hz := hb.size; obtain ⟨hcc, hff⟩ := bcell hb; have q1 := fun o => hcc w.heap.size o (by first | omega | (simp; omega)); have q2 := fun o => hcc (w.heap.size + 1) o (by first | omega | (simp; omega)); clear hcc hff) | (go_at_call 31; refine (Reset_any _ _ _ _).mono ?_; rintro e w1 ⟨rfl, hb⟩; have hz := hb.size; obtain ⟨hcc, hff⟩ := bcell hb; have q1 := fun o => hcc w.heap.size o (by first | omega | (simp; omega)); have q2 := fun o => hcc (w.heap.size + 1) o (by first | omega | (simp; omega)); clear hcc hff) | (go_at_call 27; refine (alive28 _).mono ?_; rintro e w1 ⟨rfl, hb⟩; have hz := hb.size; obtain ⟨hcc, hff⟩ := bcell hb; have q1 := fun o => hcc w.heap.size o (by first | omega | (simp; omega)); have q2 := fun o => hcc (w.heap.size + 1) o (by first | omega | (simp; omega)); clear hcc hff))
  go_wp2
  go_ret
  exact ⟨rfl, by repeat (first | exact Below.refl _ _ | apply below_alloc | apply Below.drew | (refine below_then ?_ (by assumption)))⟩
set_option maxHeartbeats 4000000 in
theorem EdgeSteps_C (w : World) (a : Bool) :
    Calls Try.prog 6 #[.agg #[.bool a, .bool true, .bool false], .bool false] w fun e w' => e = .returned (.bool true) ∧ Below w.heap.size w w' := by
  go_enter Try.func6, Try.ntmps6
  go_wp2_with fail
  go_region_held3 (fun w' => w'.cell? ⟨w.heap.size, 0, none⟩ = some (.bool a) ∧ w'.cell? ⟨w.heap.size, 1, none⟩ = some (.bool true) ∧ w'.cell? ⟨w.heap.size, 2, none⟩ = some (.bool false) ∧ w'.cell? ⟨w.heap.size + 1, 0, none⟩ = some (.bool false) ∧ w'.cell? ⟨w.heap.size + 1, 1, none⟩ = some (.bool true) ∧ w'.cell? ⟨w.heap.size + 1, 2, none⟩ = some (.bool (false)) ∧ w.heap.size < w'.heap.size ∧ w.heap.size + 1 < w'.heap.size) (((try dsimp only); (repeat' apply And.intro) <;> first | omega | (go_keep; done) | (simp; omega)))
    (first | (go_at_call 28; refine (Sample_any _ _ _ _ _).mono ?_; rintro e w1 ⟨rfl, hb⟩; have hz := hb.size; obtain ⟨hcc, hff⟩ := bcell hb; have q1 := fun o => hcc w.heap.size o (by first | omega | (simp; omega)); have q2 := fun o => hcc (w.heap.size + 1) o (by first | omega | (simp; omega)); clear hcc hff) | (go_at_call 29; refine (Arm_any _ _ _ _).mono ?_; rintro e w1 ⟨rfl, hb⟩; have hz := hb.size; obtain ⟨hcc, hff⟩ := bcell hb; have q1 := fun o => hcc w.heap.size o (by first | omega | (simp; omega)); have q2 := fun o => hcc (w.heap.size + 1) o (by first | omega | (simp; omega)); clear hcc hff) | (go_at_call 30; refine (Take_any _ _ _ _).mono ?_; rintro e w1 ⟨rfl, hb⟩; have hz := hb.size; obtain ⟨hcc, hff⟩ := bcell hb; have q1 := fun o => hcc w.heap.size o (by first | omega | (simp; omega)); have q2 := fun o => hcc (w.heap.size + 1) o (by first | omega | (simp; omega)); clear hcc hff) | (go_at_call 31; refine (Reset_any _ _ _ _).mono ?_; rintro e w1 ⟨rfl, hb⟩; have hz := hb.size; obtain ⟨hcc, hff⟩ := bcell hb; have q1 := fun o => hcc w.heap.size o (by first | omega | (simp; omega)); have q2 := fun o => hcc (w.heap.size + 1) o (by first | omega | (simp; omega)); clear hcc hff) | (go_at_call 27; refine (alive28 _).mono ?_; rintro e w1 ⟨rfl, hb⟩; have hz := hb.size; obtain ⟨hcc, hff⟩ := bcell hb; have q1 := fun o => hcc w.heap.size o (by first | omega | (simp; omega)); have q2 := fun o => hcc (w.heap.size + 1) o (by first | omega | (simp; omega)); clear hcc hff))
  go_wp2
  go_ret
  exact ⟨rfl, by repeat (first | exact Below.refl _ _ | apply below_alloc | apply Below.drew | (refine below_then ?_ (by assumption)))⟩
set_option maxHeartbeats 4000000 in
theorem EdgeSteps_D (w : World) (a : Bool) :
    Calls Try.prog 6 #[.agg #[.bool a, .bool true, .bool false], .bool true] w fun e w' => e = .returned (.bool true) ∧ Below w.heap.size w w' := by
  go_enter Try.func6, Try.ntmps6
  go_wp2_with fail
  go_region_held3 (fun w' => w'.cell? ⟨w.heap.size, 0, none⟩ = some (.bool a) ∧ w'.cell? ⟨w.heap.size, 1, none⟩ = some (.bool true) ∧ w'.cell? ⟨w.heap.size, 2, none⟩ = some (.bool false) ∧ w'.cell? ⟨w.heap.size + 1, 0, none⟩ = some (.bool true) ∧ w'.cell? ⟨w.heap.size + 1, 1, none⟩ = some (.bool true) ∧ w'.cell? ⟨w.heap.size + 1, 2, none⟩ = some (.bool (!a)) ∧ w.heap.size < w'.heap.size ∧ w.heap.size + 1 < w'.heap.size) (((try dsimp only); (repeat' apply And.intro) <;> first | omega | (go_keep; done) | (simp; omega)))
    (first | (go_at_call 28; refine (Sample_any _ _ _ _ _).mono ?_; rintro e w1 ⟨rfl, hb⟩; have hz := hb.size; obtain ⟨hcc, hff⟩ := bcell hb; have q1 := fun o => hcc w.heap.size o (by first | omega | (simp; omega)); have q2 := fun o => hcc (w.heap.size + 1) o (by first | omega | (simp; omega)); clear hcc hff) | (go_at_call 29; refine (Arm_any _ _ _ _).mono ?_; rintro e w1 ⟨rfl, hb⟩; have hz := hb.size; obtain ⟨hcc, hff⟩ := bcell hb; have q1 := fun o => hcc w.heap.size o (by first | omega | (simp; omega)); have q2 := fun o => hcc (w.heap.size + 1) o (by first | omega | (simp; omega)); clear hcc hff) | (go_at_call 30; refine (Take_any _ _ _ _).mono ?_; rintro e w1 ⟨rfl, hb⟩; have hz := hb.size; obtain ⟨hcc, hff⟩ := bcell hb; have q1 := fun o => hcc w.heap.size o (by first | omega | (simp; omega)); have q2 := fun o => hcc (w.heap.size + 1) o (by first | omega | (simp; omega)); clear hcc hff) | (go_at_call 31; refine (Reset_any _ _ _ _).mono ?_; rintro e w1 ⟨rfl, hb⟩; have hz := hb.size; obtain ⟨hcc, hff⟩ := bcell hb; have q1 := fun o => hcc w.heap.size o (by first | omega | (simp; omega)); have q2 := fun o => hcc (w.heap.size + 1) o (by first | omega | (simp; omega)); clear hcc hff) | (go_at_call 27; refine (alive28 _).mono ?_; rintro e w1 ⟨rfl, hb⟩; have hz := hb.size; obtain ⟨hcc, hff⟩ := bcell hb; have q1 := fun o => hcc w.heap.size o (by first | omega | (simp; omega)); have q2 := fun o => hcc (w.heap.size + 1) o (by first | omega | (simp; omega)); clear hcc hff))
  go_wp2
  go_ret
  exact ⟨rfl, by repeat (first | exact Below.refl _ _ | apply below_alloc | apply Below.drew | (refine below_then ?_ (by assumption)))⟩
theorem EdgeSteps_walk (w : World) (s : Bool × Bool × Bool) (_g : True) (lv : Bool) :
    Calls Try.prog 6 #[.agg #[.bool s.1, .bool s.2.1, .bool s.2.2], .bool lv] w fun e w' => e = .returned (.bool true) ∧ Below w.heap.size w w' := by
  obtain ⟨a, b, c⟩ := s
  cases c with
  | true => exact EdgeSteps_A w a b lv
  | false =>
    cases b with
    | false => exact EdgeSteps_B w a lv
    | true =>
      cases lv with
      | false => exact EdgeSteps_C w a
      | true => exact EdgeSteps_D w a
theorem dec_latch (W : World) : Dec Try.prog W 31 (Bool × Bool × Bool) (fun s => [.bool s.1, .bool s.2.1, .bool s.2.2]) (fun _ => True) := fun H enc fuel cs x h => by
  obtain ⟨hl, hf⟩ := dec_struct Try.underlying31 (by kernel_rfl) (by kernel_rfl) h
  match cs, hl with
  | [c0, c1, c2], _ =>
    obtain ⟨n0, y0, h0⟩ := hf 0 _ c0 rfl rfl
    obtain ⟨n1, y1, h1⟩ := hf 1 _ c1 rfl rfl
    obtain ⟨n2, y2, h2⟩ := hf 2 _ c2 rfl rfl
    obtain ⟨b0, e0, _⟩ := dec_bool Try.underlying4 H enc _ _ _ h0
    obtain ⟨b1, e1, _⟩ := dec_bool Try.underlying4 H enc _ _ _ h1
    obtain ⟨b2, e2, _⟩ := dec_bool Try.underlying4 H enc _ _ _ h2
    obtain rfl := (List.cons.inj e0).1
    obtain rfl := (List.cons.inj e1).1
    obtain rfl := (List.cons.inj e2).1
    exact ⟨(b0, b1, b2), rfl, trivial⟩
end Go.Proofs.Ytgebopmiefgdoaa

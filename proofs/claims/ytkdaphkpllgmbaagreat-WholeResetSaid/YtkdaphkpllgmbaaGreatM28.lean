/-
  Contract of decimal.Daa.
-/
import Derived.Test.YtkdaphkpllgmbaaGreatM02
namespace Go.Proofs.YtkdaphkpllgmbaaGreat
open Go.RowKit Sp
def daaM (l u h c : Bool) : UInt8 := if u || c then (if l || h then 102 else 96) else (if l || h then 6 else 0)
set_option maxRecDepth 100000 in
set_option maxHeartbeats 4000000 in
theorem Daa_case (a cc : UInt8) (l u h c : Bool) (w : World) (hl : decide (9 < (a.toNat : Int) % 16) = l) (hu : decide (153 < (a.toNat : Int)) = u)
    (H32 : Hid (∀ (t : TypeId) (W : World) (g : Nat), W.heap.size = g → Calls Tryz.prog 80 #[.int .u8 (cc.toNat : Int), .slice (some ⟨g, 0, none⟩) 1 1] (W.alloc (.cells #[.int .u8 32] t)) fun e w' => e = .returned (.bool h) ∧ W.alloc (.cells #[.int .u8 32] t) = w'))
    (H1 : Hid (∀ (t : TypeId) (W : World) (g : Nat), W.heap.size = g → Calls Tryz.prog 80 #[.int .u8 (cc.toNat : Int), .slice (some ⟨g, 0, none⟩) 1 1] (W.alloc (.cells #[.int .u8 1] t)) fun e w' => e = .returned (.bool c) ∧ W.alloc (.cells #[.int .u8 1] t) = w')) :
    Calls Tryz.prog 217 #[.int .u8 (a.toNat : Int), .int .u8 (cc.toNat : Int)] w fun e w' => e = .returned (.tuple #[.int .u8 ((plusB a (daaM l u h c)).toNat : Int), .int .u8 ((wb false (wb (u || c) (nzB cc (plusB a (daaM l u h c))) 1) 2).toNat : Int)]) ∧ Below w.heap.size w w' := by
  have ha := a.toNat_lt
  have k0 : Go.bits .or .u8 0 6 = 6 := by decide
  have k1 : Go.bits .or .u8 6 96 = 102 := by decide
  have k2 : Go.bits .or .u8 0 96 = 96 := by decide
  have s0 : (a.toNat : Int) = ((plusB a 0).toNat : Int) := by simp [plusB]
  have s6 : ((a.toNat : Int) + 6) % 256 = ((plusB a 6).toNat : Int) := by rw [plusB, UInt8.toNat_add]; simp
  have s96 : ((a.toNat : Int) + 96) % 256 = ((plusB a 96).toNat : Int) := by rw [plusB, UInt8.toNat_add]; simp
  have s102 : ((a.toNat : Int) + 102) % 256 = ((plusB a 102).toNat : Int) := by rw [plusB, UInt8.toNat_add]; simp
  have S0 := Lib.hid s0
  clear s0
  cases l <;> cases u <;> cases h <;> cases c
  all_goals
   as_aux_lemma =>
    go_enter Tryz.func217, Tryz.ntmps217
    go_wp2_with (first | (go_at_call 80; with_reducible refine (H32.out _ _ _ ?hg).mono ?_; (case hg => first | rfl | (simp; done)); rintro e w1 ⟨rfl, rfl⟩) | (go_at_call 80; with_reducible refine (H1.out _ _ _ ?hg).mono ?_; (case hg => first | rfl | (simp; done)); rintro e w1 ⟨rfl, rfl⟩) | (go_at_call 251; refine (nz_t _ _ _).mono ?_; rintro e w1 ⟨rfl, hb⟩) | (go_at_call 137; with_reducible refine (With_1 _ _ _ _ _ ?hg).mono ?_; (case hg => first | rfl | (simp; done)); rintro e w1 ⟨rfl, rfl⟩) | (go_at_call 137; with_reducible refine (With_2 _ _ _ _ _ ?hg).mono ?_; (case hg => first | rfl | (simp; done)); rintro e w1 ⟨rfl, rfl⟩))
    go_ret2
    refine ⟨?_, by repeat (first | exact Below.refl _ _ | apply below_alloc | apply Below.drew | (refine below_then ?_ (by assumption)))⟩
    first
    | exact rfl
    | (rw [show daaM false false false false = 0 from rfl, show plusB a 0 = a from by simp [plusB]]; try rfl)
theorem Daa_t (a cc : UInt8) (w : World) :
    Calls Tryz.prog 217 #[.int .u8 (a.toNat : Int), .int .u8 (cc.toNat : Int)] w fun e w' => e = .returned (.tuple #[.int .u8 ((daaB a cc).1.toNat : Int), .int .u8 ((daaB a cc).2.toNat : Int)]) ∧ Below w.heap.size w w' := by
  have hl : decide (9 < (a.toNat : Int) % 16) = decide (a &&& 15 > 9) := by
    have := a.toNat_lt
    have e := u8_and15 (x := (a.toNat : Int)) (by omega) (by omega)
    rw [← e, and8_15, decide_eq_decide]
    show _ ↔ (9 : UInt8) < a &&& 15
    rw [UInt8.lt_iff_toNat_lt]
    generalize (a &&& 15).toNat = n
    show (9 : Int) < _ ↔ 9 < n
    omega
  have hu : decide (153 < (a.toNat : Int)) = decide (a > 153) := by
    rw [decide_eq_decide]
    show _ ↔ (153 : UInt8) < a
    rw [UInt8.lt_iff_toNat_lt]
    generalize a.toNat = n
    show (153 : Int) < _ ↔ 153 < n
    omega
  have h := Daa_case a cc _ _ (hb cc 32) (hb cc 1) w hl hu (Lib.hid (fun t W g hg => Has_32 cc t W g hg)) (Lib.hid (fun t W g hg => Has_1 cc t W g hg))
  have e : daaB a cc = (plusB a (daaM (decide (a &&& 15 > 9)) (decide (a > 153)) (hb cc 32) (hb cc 1)), wb false (wb (decide (a > 153) || hb cc 1) (nzB cc (plusB a (daaM (decide (a &&& 15 > 9)) (decide (a > 153)) (hb cc 32) (hb cc 1)))) 1) 2) := by
    unfold daaB
    generalize decide (a &&& 15 > 9) = l
    generalize decide (a > 153) = u
    generalize hb cc 32 = h
    generalize hb cc 1 = c
    cases l <;> cases u <;> cases h <;> cases c <;> rfl
  rw [e]
  exact h
end Go.Proofs.YtkdaphkpllgmbaaGreat

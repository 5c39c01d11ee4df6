/-
  Contracts of alu.Eight, alu.Change, alu.Word.
-/
import Derived.Test.YtkdaphkpllgmbaaGreatM02
namespace Go.Proofs.YtkdaphkpllgmbaaGreat
open Go.RowKit Sp
set_option linter.unusedVariables false
theorem keepEight (r f : Int) (w : World) : Calls Tryz.prog 238 #[.int .u8 r, .int .u8 f] w fun e w' => e = .returned (.tuple #[.int .u8 r, .int .u8 f, .bool true]) ∧ w = w' := by
  go_enter Tryz.func238, Tryz.ntmps238
  go_wp2
  go_ret3
  exact ⟨rfl, rfl⟩
theorem keepChange (r f : Int) (w : World) : Calls Tryz.prog 203 #[.int .u8 r, .int .u8 f] w fun e w' => e = .returned (.tuple #[.int .u8 r, .int .u8 f, .bool true]) ∧ w = w' := by
  go_enter Tryz.func203, Tryz.ntmps203
  go_wp2
  go_ret3
  exact ⟨rfl, rfl⟩
theorem keepWord (r f : Int) (w : World) : Calls Tryz.prog 252 #[.int .u16 r, .int .u8 f] w fun e w' => e = .returned (.tuple #[.int .u16 r, .int .u8 f, .bool true]) ∧ w = w' := by
  go_enter Tryz.func252, Tryz.ntmps252
  go_wp2
  go_ret3
  exact ⟨rfl, rfl⟩
set_option maxRecDepth 100000 in
set_option maxHeartbeats 4000000 in
theorem alu8_t (op : Int) (a b cc : UInt8) (w : World) :
    Calls Tryz.prog 202 #[.int .i64 op, .int .u8 (a.toNat : Int), .int .u8 (b.toNat : Int), .int .u8 (cc.toNat : Int)] w fun e w' => e = .returned (.tuple #[.int .u8 ((alu8 op a b cc).1.toNat : Int), .int .u8 ((alu8 op a b cc).2.1.toNat : Int), .bool (alu8 op a b cc).2.2]) ∧ Below w.heap.size w w' := by
  rcases (show op = 2 ∨ op = 3 ∨ op = 4 ∨ op = 5 ∨ op = 6 ∨ op = 7 ∨ op = 8 ∨ op = 9 ∨ op = 10 ∨ op = 11 ∨ (op ≠ 2 ∧ op ≠ 3 ∧ op ≠ 4 ∧ op ≠ 5 ∧ op ≠ 6 ∧ op ≠ 7 ∧ op ≠ 8 ∧ op ≠ 9 ∧ op ≠ 10 ∧ op ≠ 11) from by omega) with rfl | rfl | rfl | rfl | rfl | rfl | rfl | rfl | rfl | rfl | ⟨h2, h3, h4, h5, h6, h7, h8, h9, h10, h11⟩
  · as_aux_lemma =>
    go_enter Tryz.func202, Tryz.ntmps202
    go_wp2_with (first | (go_at_call 239; refine (adderAdc_t _ _ _ _).mono ?_; rintro e w1 ⟨rfl, hb⟩) | (go_at_call 238; refine (keepEight _ _ _).mono ?_; rintro e w1 ⟨rfl, rfl⟩))
    go_ret3
    exact ⟨rfl, by repeat (first | exact Below.refl _ _ | apply below_alloc | apply Below.drew | (refine below_then ?_ (by assumption)))⟩
  · as_aux_lemma =>
    go_enter Tryz.func202, Tryz.ntmps202
    go_wp2_with (first | (go_at_call 240; refine (adderAdd_t _ _ _ _).mono ?_; rintro e w1 ⟨rfl, hb⟩) | (go_at_call 238; refine (keepEight _ _ _).mono ?_; rintro e w1 ⟨rfl, rfl⟩))
    go_ret3
    exact ⟨rfl, by repeat (first | exact Below.refl _ _ | apply below_alloc | apply Below.drew | (refine below_then ?_ (by assumption)))⟩
  · as_aux_lemma =>
    go_enter Tryz.func202, Tryz.ntmps202
    go_wp2_with (first | (go_at_call 241; refine (logicAnd_t _ _ _ _).mono ?_; rintro e w1 ⟨rfl, hb⟩) | (go_at_call 238; refine (keepEight _ _ _).mono ?_; rintro e w1 ⟨rfl, rfl⟩))
    go_ret3
    exact ⟨rfl, by repeat (first | exact Below.refl _ _ | apply below_alloc | apply Below.drew | (refine below_then ?_ (by assumption)))⟩
  · as_aux_lemma =>
    go_enter Tryz.func202, Tryz.ntmps202
    go_wp2_with (first | (go_at_call 242; refine (logicBit_t _ _ _ _).mono ?_; rintro e w1 ⟨rfl, hb⟩) | (go_at_call 238; refine (keepEight _ _ _).mono ?_; rintro e w1 ⟨rfl, rfl⟩))
    go_ret3
    exact ⟨rfl, by repeat (first | exact Below.refl _ _ | apply below_alloc | apply Below.drew | (refine below_then ?_ (by assumption)))⟩
  · as_aux_lemma =>
    go_enter Tryz.func202, Tryz.ntmps202
    go_wp2_with (first | (go_at_call 243; refine (takerCmp_t _ _ _ _).mono ?_; rintro e w1 ⟨rfl, hb⟩) | (go_at_call 238; refine (keepEight _ _ _).mono ?_; rintro e w1 ⟨rfl, rfl⟩))
    go_ret3
    exact ⟨rfl, by repeat (first | exact Below.refl _ _ | apply below_alloc | apply Below.drew | (refine below_then ?_ (by assumption)))⟩
  · as_aux_lemma =>
    go_enter Tryz.func202, Tryz.ntmps202
    go_wp2_with (first | (go_at_call 244; refine (logicEor_t _ _ _ _).mono ?_; rintro e w1 ⟨rfl, hb⟩) | (go_at_call 238; refine (keepEight _ _ _).mono ?_; rintro e w1 ⟨rfl, rfl⟩))
    go_ret3
    exact ⟨rfl, by repeat (first | exact Below.refl _ _ | apply below_alloc | apply Below.drew | (refine below_then ?_ (by assumption)))⟩
  · as_aux_lemma =>
    go_enter Tryz.func202, Tryz.ntmps202
    go_wp2_with (first | (go_at_call 245; refine (logicOr_t _ _ _ _).mono ?_; rintro e w1 ⟨rfl, hb⟩) | (go_at_call 238; refine (keepEight _ _ _).mono ?_; rintro e w1 ⟨rfl, rfl⟩))
    go_ret3
    exact ⟨rfl, by repeat (first | exact Below.refl _ _ | apply below_alloc | apply Below.drew | (refine below_then ?_ (by assumption)))⟩
  · as_aux_lemma =>
    go_enter Tryz.func202, Tryz.ntmps202
    go_wp2_with (first | (go_at_call 246; refine (takerSbc_t _ _ _ _).mono ?_; rintro e w1 ⟨rfl, hb⟩) | (go_at_call 238; refine (keepEight _ _ _).mono ?_; rintro e w1 ⟨rfl, rfl⟩))
    go_ret3
    exact ⟨rfl, by repeat (first | exact Below.refl _ _ | apply below_alloc | apply Below.drew | (refine below_then ?_ (by assumption)))⟩
  · as_aux_lemma =>
    go_enter Tryz.func202, Tryz.ntmps202
    go_wp2_with (first | (go_at_call 247; refine (takerSub_t _ _ _ _).mono ?_; rintro e w1 ⟨rfl, hb⟩) | (go_at_call 238; refine (keepEight _ _ _).mono ?_; rintro e w1 ⟨rfl, rfl⟩))
    go_ret3
    exact ⟨rfl, by repeat (first | exact Below.refl _ _ | apply below_alloc | apply Below.drew | (refine below_then ?_ (by assumption)))⟩
  · as_aux_lemma =>
    go_enter Tryz.func202, Tryz.ntmps202
    go_wp2_with (first | (go_at_call 200; refine (logicTst_t _ _ _).mono ?_; rintro e w1 ⟨rfl, hb⟩) | (go_at_call 238; refine (keepEight _ _ _).mono ?_; rintro e w1 ⟨rfl, rfl⟩))
    go_ret3
    exact ⟨rfl, by repeat (first | exact Below.refl _ _ | apply below_alloc | apply Below.drew | (refine below_then ?_ (by assumption)))⟩
  · as_aux_lemma =>
    have e2 : (op == 2) = false := beq_eq_false_iff_ne.mpr h2
    have e3 : (op == 3) = false := beq_eq_false_iff_ne.mpr h3
    have e4 : (op == 4) = false := beq_eq_false_iff_ne.mpr h4
    have e5 : (op == 5) = false := beq_eq_false_iff_ne.mpr h5
    have e6 : (op == 6) = false := beq_eq_false_iff_ne.mpr h6
    have e7 : (op == 7) = false := beq_eq_false_iff_ne.mpr h7
    have e8 : (op == 8) = false := beq_eq_false_iff_ne.mpr h8
    have e9 : (op == 9) = false := beq_eq_false_iff_ne.mpr h9
    have e10 : (op == 10) = false := beq_eq_false_iff_ne.mpr h10
    have e11 : (op == 11) = false := beq_eq_false_iff_ne.mpr h11
    rw [show alu8 op a b cc = (a, cc, false) from by simp [alu8, h2, h3, h4, h5, h6, h7, h8, h9, h10, h11]]
    go_enter Tryz.func202, Tryz.ntmps202
    go_wp2
    go_ret3
    exact ⟨rfl, by repeat (first | exact Below.refl _ _ | apply below_alloc | apply Below.drew | (refine below_then ?_ (by assumption)))⟩
set_option maxRecDepth 100000 in
set_option maxHeartbeats 4000000 in
theorem change_t (op : Int) (a cc : UInt8) (w : World) :
    Calls Tryz.prog 172 #[.int .i64 op, .int .u8 (a.toNat : Int), .int .u8 (cc.toNat : Int)] w fun e w' => e = .returned (.tuple #[.int .u8 ((change op a cc).1.toNat : Int), .int .u8 ((change op a cc).2.1.toNat : Int), .bool (change op a cc).2.2]) ∧ Below w.heap.size w w' := by
  rcases (show op = 13 ∨ op = 14 ∨ op = 15 ∨ op = 16 ∨ op = 17 ∨ op = 18 ∨ op = 19 ∨ op = 20 ∨ op = 21 ∨ op = 22 ∨ op = 23 ∨ (op ≠ 13 ∧ op ≠ 14 ∧ op ≠ 15 ∧ op ≠ 16 ∧ op ≠ 17 ∧ op ≠ 18 ∧ op ≠ 19 ∧ op ≠ 20 ∧ op ≠ 21 ∧ op ≠ 22 ∧ op ≠ 23) from by omega) with rfl | rfl | rfl | rfl | rfl | rfl | rfl | rfl | rfl | rfl | rfl | ⟨h13, h14, h15, h16, h17, h18, h19, h20, h21, h22, h23⟩
  · as_aux_lemma =>
    go_enter Tryz.func172, Tryz.ntmps172
    go_wp2_with (first | (go_at_call 204; refine (takerNeg_t _ _ _).mono ?_; rintro e w1 ⟨rfl, hb⟩) | (go_at_call 203; refine (keepChange _ _ _).mono ?_; rintro e w1 ⟨rfl, rfl⟩))
    go_ret3
    exact ⟨rfl, by repeat (first | exact Below.refl _ _ | apply below_alloc | apply Below.drew | (refine below_then ?_ (by assumption)))⟩
  · as_aux_lemma =>
    go_enter Tryz.func172, Tryz.ntmps172
    go_wp2_with (first | (go_at_call 205; refine (logicCom_t _ _ _).mono ?_; rintro e w1 ⟨rfl, hb⟩) | (go_at_call 203; refine (keepChange _ _ _).mono ?_; rintro e w1 ⟨rfl, rfl⟩))
    go_ret3
    exact ⟨rfl, by repeat (first | exact Below.refl _ _ | apply below_alloc | apply Below.drew | (refine below_then ?_ (by assumption)))⟩
  · as_aux_lemma =>
    go_enter Tryz.func172, Tryz.ntmps172
    go_wp2_with (first | (go_at_call 206; refine (shiftLsr_t _ _ _).mono ?_; rintro e w1 ⟨rfl, hb⟩) | (go_at_call 203; refine (keepChange _ _ _).mono ?_; rintro e w1 ⟨rfl, rfl⟩))
    go_ret3
    exact ⟨rfl, by repeat (first | exact Below.refl _ _ | apply below_alloc | apply Below.drew | (refine below_then ?_ (by assumption)))⟩
  · as_aux_lemma =>
    go_enter Tryz.func172, Tryz.ntmps172
    go_wp2_with (first | (go_at_call 207; refine (shiftRor_t _ _ _).mono ?_; rintro e w1 ⟨rfl, hb⟩) | (go_at_call 203; refine (keepChange _ _ _).mono ?_; rintro e w1 ⟨rfl, rfl⟩))
    go_ret3
    exact ⟨rfl, by repeat (first | exact Below.refl _ _ | apply below_alloc | apply Below.drew | (refine below_then ?_ (by assumption)))⟩
  · as_aux_lemma =>
    go_enter Tryz.func172, Tryz.ntmps172
    go_wp2_with (first | (go_at_call 208; refine (shiftAsr_t _ _ _).mono ?_; rintro e w1 ⟨rfl, hb⟩) | (go_at_call 203; refine (keepChange _ _ _).mono ?_; rintro e w1 ⟨rfl, rfl⟩))
    go_ret3
    exact ⟨rfl, by repeat (first | exact Below.refl _ _ | apply below_alloc | apply Below.drew | (refine below_then ?_ (by assumption)))⟩
  · as_aux_lemma =>
    go_enter Tryz.func172, Tryz.ntmps172
    go_wp2_with (first | (go_at_call 209; refine (shiftAsl_t _ _ _).mono ?_; rintro e w1 ⟨rfl, hb⟩) | (go_at_call 203; refine (keepChange _ _ _).mono ?_; rintro e w1 ⟨rfl, rfl⟩))
    go_ret3
    exact ⟨rfl, by repeat (first | exact Below.refl _ _ | apply below_alloc | apply Below.drew | (refine below_then ?_ (by assumption)))⟩
  · as_aux_lemma =>
    go_enter Tryz.func172, Tryz.ntmps172
    go_wp2_with (first | (go_at_call 210; refine (shiftRol_t _ _ _).mono ?_; rintro e w1 ⟨rfl, hb⟩) | (go_at_call 203; refine (keepChange _ _ _).mono ?_; rintro e w1 ⟨rfl, rfl⟩))
    go_ret3
    exact ⟨rfl, by repeat (first | exact Below.refl _ _ | apply below_alloc | apply Below.drew | (refine below_then ?_ (by assumption)))⟩
  · as_aux_lemma =>
    go_enter Tryz.func172, Tryz.ntmps172
    go_wp2_with (first | (go_at_call 211; refine (countDec_t _ _ _).mono ?_; rintro e w1 ⟨rfl, hb⟩) | (go_at_call 203; refine (keepChange _ _ _).mono ?_; rintro e w1 ⟨rfl, rfl⟩))
    go_ret3
    exact ⟨rfl, by repeat (first | exact Below.refl _ _ | apply below_alloc | apply Below.drew | (refine below_then ?_ (by assumption)))⟩
  · as_aux_lemma =>
    go_enter Tryz.func172, Tryz.ntmps172
    go_wp2_with (first | (go_at_call 212; refine (countInc_t _ _ _).mono ?_; rintro e w1 ⟨rfl, hb⟩) | (go_at_call 203; refine (keepChange _ _ _).mono ?_; rintro e w1 ⟨rfl, rfl⟩))
    go_ret3
    exact ⟨rfl, by repeat (first | exact Below.refl _ _ | apply below_alloc | apply Below.drew | (refine below_then ?_ (by assumption)))⟩
  · as_aux_lemma =>
    go_enter Tryz.func172, Tryz.ntmps172
    go_wp2_with (first | (go_at_call 200; refine (logicTst_t _ _ _).mono ?_; rintro e w1 ⟨rfl, hb⟩) | (go_at_call 203; refine (keepChange _ _ _).mono ?_; rintro e w1 ⟨rfl, rfl⟩))
    go_ret3
    exact ⟨rfl, by repeat (first | exact Below.refl _ _ | apply below_alloc | apply Below.drew | (refine below_then ?_ (by assumption)))⟩
  · as_aux_lemma =>
    go_enter Tryz.func172, Tryz.ntmps172
    go_wp2_with (first | (go_at_call 213; refine (logicClr_t _ _).mono ?_; rintro e w1 ⟨rfl, hb⟩) | (go_at_call 203; refine (keepChange _ _ _).mono ?_; rintro e w1 ⟨rfl, rfl⟩))
    go_ret3
    exact ⟨rfl, by repeat (first | exact Below.refl _ _ | apply below_alloc | apply Below.drew | (refine below_then ?_ (by assumption)))⟩
  · as_aux_lemma =>
    have e13 : (op == 13) = false := beq_eq_false_iff_ne.mpr h13
    have e14 : (op == 14) = false := beq_eq_false_iff_ne.mpr h14
    have e15 : (op == 15) = false := beq_eq_false_iff_ne.mpr h15
    have e16 : (op == 16) = false := beq_eq_false_iff_ne.mpr h16
    have e17 : (op == 17) = false := beq_eq_false_iff_ne.mpr h17
    have e18 : (op == 18) = false := beq_eq_false_iff_ne.mpr h18
    have e19 : (op == 19) = false := beq_eq_false_iff_ne.mpr h19
    have e20 : (op == 20) = false := beq_eq_false_iff_ne.mpr h20
    have e21 : (op == 21) = false := beq_eq_false_iff_ne.mpr h21
    have e22 : (op == 22) = false := beq_eq_false_iff_ne.mpr h22
    have e23 : (op == 23) = false := beq_eq_false_iff_ne.mpr h23
    rw [show change op a cc = (a, cc, false) from by simp [change, h13, h14, h15, h16, h17, h18, h19, h20, h21, h22, h23]]
    go_enter Tryz.func172, Tryz.ntmps172
    go_wp2
    go_ret3
    exact ⟨rfl, by repeat (first | exact Below.refl _ _ | apply below_alloc | apply Below.drew | (refine below_then ?_ (by assumption)))⟩
set_option maxRecDepth 100000 in
set_option maxHeartbeats 4000000 in
theorem alu16_t (op : Int) (a b : UInt16) (cc : UInt8) (w : World) :
    Calls Tryz.prog 214 #[.int .i64 op, .int .u16 (a.toNat : Int), .int .u16 (b.toNat : Int), .int .u8 (cc.toNat : Int)] w fun e w' => e = .returned (.tuple #[.int .u16 ((alu16 op a b cc).1.toNat : Int), .int .u8 ((alu16 op a b cc).2.1.toNat : Int), .bool (alu16 op a b cc).2.2]) ∧ Below w.heap.size w w' := by
  rcases (show op = 24 ∨ op = 26 ∨ op = 27 ∨ op = 28 ∨ (op ≠ 24 ∧ op ≠ 26 ∧ op ≠ 27 ∧ op ≠ 28) from by omega) with rfl | rfl | rfl | rfl | ⟨h24, h26, h27, h28⟩
  · as_aux_lemma =>
    go_enter Tryz.func214, Tryz.ntmps214
    go_wp2_with (first | (go_at_call 201; refine (wideTst_t _ _ _).mono ?_; rintro e w1 ⟨rfl, hb⟩) | (go_at_call 252; refine (keepWord _ _ _).mono ?_; rintro e w1 ⟨rfl, rfl⟩))
    go_ret3
    exact ⟨rfl, by repeat (first | exact Below.refl _ _ | apply below_alloc | apply Below.drew | (refine below_then ?_ (by assumption)))⟩
  · as_aux_lemma =>
    go_enter Tryz.func214, Tryz.ntmps214
    go_wp2_with (first | (go_at_call 253; refine (wideAdd_t _ _ _ _).mono ?_; rintro e w1 ⟨rfl, hb⟩) | (go_at_call 252; refine (keepWord _ _ _).mono ?_; rintro e w1 ⟨rfl, rfl⟩))
    go_ret3
    exact ⟨rfl, by repeat (first | exact Below.refl _ _ | apply below_alloc | apply Below.drew | (refine below_then ?_ (by assumption)))⟩
  · as_aux_lemma =>
    go_enter Tryz.func214, Tryz.ntmps214
    go_wp2_with (first | (go_at_call 254; refine (wideSub_t _ _ _ _).mono ?_; rintro e w1 ⟨rfl, hb⟩) | (go_at_call 252; refine (keepWord _ _ _).mono ?_; rintro e w1 ⟨rfl, rfl⟩))
    go_ret3
    exact ⟨rfl, by repeat (first | exact Below.refl _ _ | apply below_alloc | apply Below.drew | (refine below_then ?_ (by assumption)))⟩
  · as_aux_lemma =>
    go_enter Tryz.func214, Tryz.ntmps214
    go_wp2_with (first | (go_at_call 255; refine (wideCmp_t _ _ _ _).mono ?_; rintro e w1 ⟨rfl, hb⟩) | (go_at_call 252; refine (keepWord _ _ _).mono ?_; rintro e w1 ⟨rfl, rfl⟩))
    go_ret3
    exact ⟨rfl, by repeat (first | exact Below.refl _ _ | apply below_alloc | apply Below.drew | (refine below_then ?_ (by assumption)))⟩
  · as_aux_lemma =>
    have e24 : (op == 24) = false := beq_eq_false_iff_ne.mpr h24
    have e26 : (op == 26) = false := beq_eq_false_iff_ne.mpr h26
    have e27 : (op == 27) = false := beq_eq_false_iff_ne.mpr h27
    have e28 : (op == 28) = false := beq_eq_false_iff_ne.mpr h28
    rw [show alu16 op a b cc = (a, cc, false) from by simp [alu16, h24, h26, h27, h28]]
    go_enter Tryz.func214, Tryz.ntmps214
    go_wp2
    go_ret3
    exact ⟨rfl, by repeat (first | exact Below.refl _ _ | apply below_alloc | apply Below.drew | (refine below_then ?_ (by assumption)))⟩
end Go.Proofs.YtkdaphkpllgmbaaGreat

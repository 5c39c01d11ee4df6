/-
  Contracts of rows.many, Tail, Rest, Row, phase.Ahead, phase.Behind.
-/
import Derived.Test.YtkdaphkpllgmbaaGreatM14
import Derived.Test.YtkdaphkpllgmbaaGreatM04
import Derived.Deep.RegionHeld3
namespace Go.Proofs.YtkdaphkpllgmbaaGreat
open Go.RowKit Sp
set_option linter.unusedVariables false
attribute [local go_sem] Sp.Ent.v Sp.Ent.cells
def manyF (op n : Int) : List Step := if op = 30 then some_ 4 2 ++ (some_ 10 1 ++ some_ 8 n) else some_ 4 2 ++ (some_ 9 n ++ some_ 10 1)
set_option maxRecDepth 100000 in
set_option maxHeartbeats 2000000 in
theorem many_case (op : Int) (b : UInt8) (n : Int) (w : World) (h0 : 0 ≤ n) (h1 : n ≤ 12) (HC : Hid (∀ W : World, Calls Tryz.prog 230 #[.int .u8 (b.toNat : Int)] W fun e w' => e = .returned (.int .i64 n) ∧ Below W.heap.size W w')) :
    Calls Tryz.prog 191 #[.int .i64 op, .int .u8 (b.toNat : Int)] w (OwnSteps (manyF op n) w) := by
  by_cases h : op = 30
  · subst h
    rw [show manyF 30 n = some_ 4 2 ++ (some_ 10 1 ++ some_ 8 n) from rfl]
    generalize hL : some_ 4 2 ++ (some_ 10 1 ++ some_ 8 n) = L
    have HL := Lib.hid hL
    clear hL
    go_enter Tryz.func191, Tryz.ntmps191
    go_wp2_with fail
    refine (HC.out _).mono ?_
    rintro e w0 ⟨rfl, hb0⟩
    have hbt := hb0
    go_wp2_with fail
    refine (idle_t 2 _ (by omega) (by omega)).mono ?_
    rintro e w1 ho
    obtain ⟨A1, c1, rfl, hr1, hb1⟩ := ho.got
    clear ho
    replace hbt := below_then hbt hb1
    clear hb1
    go_wp2_with fail
    refine (Some_t 10 1 (by omega) (by omega) _).mono ?_
    rintro e w2 ho
    obtain ⟨A2, c2, rfl, hr2, hb2⟩ := ho.got
    clear ho
    replace hbt := below_then hbt hb2
    replace hr1 := (hr1.below hb2).more hb2.size
    clear hb2
    go_wp2_with fail
    refine (push_t n _ h0 h1).mono ?_
    rintro e w3 ho
    obtain ⟨A3, c3, rfl, hr3, hb3⟩ := ho.got
    clear ho
    replace hbt := below_then hbt hb3
    replace hr1 := (hr1.below hb3).more hb3.size
    replace hr2 := (hr2.below hb3).more hb3.size
    clear hb3
    go_wp2_with fail
    refine (Row3 _ _ _ _ _ _ _ _ _ _ hr1 (some_small _ _ (by omega)) hr2 (some_small _ _ (by omega)) hr3 (some_small _ _ h1) _ rfl).mono ?_
    rintro e wz ho
    replace ho : OwnSteps (some_ 4 2 ++ (some_ 10 1 ++ some_ 8 n)) _ e wz := ho
    rw [HL.out] at ho
    obtain ⟨A, c, rfl, hown, hbl⟩ := ho.open_
    clear ho
    go_wp2
    go_ret
    exact ⟨_, rfl, own_lower hown hbt.size, below_then hbt hbl⟩
  · have e30 : (op == 30) = false := beq_eq_false_iff_ne.mpr h
    rw [show manyF op n = some_ 4 2 ++ (some_ 9 n ++ some_ 10 1) from by simp [manyF, h]]
    generalize hL : some_ 4 2 ++ (some_ 9 n ++ some_ 10 1) = L
    have HL := Lib.hid hL
    clear hL
    go_enter Tryz.func191, Tryz.ntmps191
    go_wp2_with fail
    refine (HC.out _).mono ?_
    rintro e w0 ⟨rfl, hb0⟩
    have hbt := hb0
    go_wp2_with fail
    refine (idle_t 2 _ (by omega) (by omega)).mono ?_
    rintro e w1 ho
    obtain ⟨A1, c1, rfl, hr1, hb1⟩ := ho.got
    clear ho
    replace hbt := below_then hbt hb1
    clear hb1
    go_wp2_with fail
    refine (pull_t n _ h0 h1).mono ?_
    rintro e w2 ho
    obtain ⟨A2, c2, rfl, hr2, hb2⟩ := ho.got
    clear ho
    replace hbt := below_then hbt hb2
    replace hr1 := (hr1.below hb2).more hb2.size
    clear hb2
    go_wp2_with fail
    refine (Some_t 10 1 (by omega) (by omega) _).mono ?_
    rintro e w3 ho
    obtain ⟨A3, c3, rfl, hr3, hb3⟩ := ho.got
    clear ho
    replace hbt := below_then hbt hb3
    replace hr1 := (hr1.below hb3).more hb3.size
    replace hr2 := (hr2.below hb3).more hb3.size
    clear hb3
    go_wp2_with fail
    refine (Row3 _ _ _ _ _ _ _ _ _ _ hr1 (some_small _ _ (by omega)) hr2 (some_small _ _ h1) hr3 (some_small _ _ (by omega)) _ rfl).mono ?_
    rintro e wz ho
    replace ho : OwnSteps (some_ 4 2 ++ (some_ 9 n ++ some_ 10 1)) _ e wz := ho
    rw [HL.out] at ho
    obtain ⟨A, c, rfl, hown, hbl⟩ := ho.open_
    clear ho
    go_wp2
    go_ret
    exact ⟨_, rfl, own_lower hown hbt.size, below_then hbt hbl⟩
theorem manyRow_t (op : Int) (b : UInt8) (w : World) : Calls Tryz.prog 191 #[.int .i64 op, .int .u8 (b.toNat : Int)] w (OwnSteps (manyRow op b) w) := by
  have hc := count_le b
  exact many_case op b (count b) w hc.1 hc.2 (Lib.hid (fun W => Count_t b W))
set_option maxRecDepth 100000 in
set_option maxHeartbeats 2000000 in
theorem rest_case (x : Int) (t : Bool) (w : World) (hx : (Go.bits .and .u8 x 128 != 0) = t) :
    Calls Tryz.prog 175 #[.int .u8 x] w (OwnSteps ((if t then some_ 9 11 else some_ 9 2) ++ some_ 10 1) w) := by
  cases t
  · rw [show (if false = true then some_ 9 11 else some_ 9 2) ++ some_ 10 1 = some_ 9 2 ++ some_ 10 1 from rfl]
    generalize hL : some_ 9 2 ++ some_ 10 1 = L
    have HL := Lib.hid hL
    clear hL
    go_enter Tryz.func175, Tryz.ntmps175
    have hbt := Below.refl w.heap.size w
    go_wp2_with fail
    refine (pull_t 2 _ (by omega) (by omega)).mono ?_
    rintro e w1 ho
    obtain ⟨A1, c1, rfl, hr1, hb1⟩ := ho.got
    clear ho
    replace hbt := below_then hbt hb1
    clear hb1
    go_wp2_with fail
    refine (Some_t 10 1 (by omega) (by omega) _).mono ?_
    rintro e w2 ho
    obtain ⟨A2, c2, rfl, hr2, hb2⟩ := ho.got
    clear ho
    replace hbt := below_then hbt hb2
    replace hr1 := (hr1.below hb2).more hb2.size
    clear hb2
    go_wp2_with fail
    refine (Row2 _ _ _ _ _ _ _ hr1 (some_small _ _ (by omega)) hr2 (some_small _ _ (by omega)) _ rfl).mono ?_
    rintro e wz ho
    replace ho : OwnSteps (some_ 9 2 ++ some_ 10 1) _ e wz := ho
    rw [HL.out] at ho
    obtain ⟨A, c, rfl, hown, hbl⟩ := ho.open_
    clear ho
    go_wp2
    go_ret
    exact ⟨_, rfl, own_lower hown hbt.size, below_then hbt hbl⟩
  · rw [show (if true = true then some_ 9 11 else some_ 9 2) ++ some_ 10 1 = some_ 9 11 ++ some_ 10 1 from rfl]
    generalize hL : some_ 9 11 ++ some_ 10 1 = L
    have HL := Lib.hid hL
    clear hL
    go_enter Tryz.func175, Tryz.ntmps175
    have hbt := Below.refl w.heap.size w
    go_wp2_with fail
    refine (pull_t 11 _ (by omega) (by omega)).mono ?_
    rintro e w1 ho
    obtain ⟨A1, c1, rfl, hr1, hb1⟩ := ho.got
    clear ho
    replace hbt := below_then hbt hb1
    clear hb1
    go_wp2_with fail
    refine (Some_t 10 1 (by omega) (by omega) _).mono ?_
    rintro e w2 ho
    obtain ⟨A2, c2, rfl, hr2, hb2⟩ := ho.got
    clear ho
    replace hbt := below_then hbt hb2
    replace hr1 := (hr1.below hb2).more hb2.size
    clear hb2
    go_wp2_with fail
    refine (Row2 _ _ _ _ _ _ _ hr1 (some_small _ _ (by omega)) hr2 (some_small _ _ (by omega)) _ rfl).mono ?_
    rintro e wz ho
    replace ho : OwnSteps (some_ 9 11 ++ some_ 10 1) _ e wz := ho
    rw [HL.out] at ho
    obtain ⟨A, c, rfl, hown, hbl⟩ := ho.open_
    clear ho
    go_wp2
    go_ret
    exact ⟨_, rfl, own_lower hown hbt.size, below_then hbt hbl⟩
theorem rest_t (b : UInt8) (w : World) : Calls Tryz.prog 175 #[.int .u8 (b.toNat : Int)] w (OwnSteps (rest b) w) :=
  rest_case _ (b &&& 128 != 0) w (by rw [and8_128, ne0_8])
set_option maxRecDepth 100000 in
set_option maxHeartbeats 2000000 in
theorem rowOf_t (k : Int) (w : World) :
    Calls Tryz.prog 114 #[.int .i64 k] w (OwnSteps (rowOf k) w) := by
  rcases (show k = 1 ∨ k = 3 ∨ k = 2 ∨ k = 4 ∨ k = 5 ∨ k = 6 ∨ k = 7 ∨ (k ≠ 1 ∧ k ≠ 3 ∧ k ≠ 2 ∧ k ≠ 4 ∧ k ≠ 5 ∧ k ≠ 6 ∧ k ≠ 7) from by omega) with rfl | rfl | rfl | rfl | rfl | rfl | rfl | ⟨h1, h3, h2, h4, h5, h6, h7⟩
  · as_aux_lemma =>
    go_enter Tryz.func114, Tryz.ntmps114
    have hbt : Below w.heap.size w w := Below.refl _ _
    go_wp2_with fail
    refine (next_t 2 _ (by omega) (by omega)).mono ?_
    rintro e w1 ho
    obtain ⟨A1, c1, rfl, hr1, hb1⟩ := ho.got
    clear ho
    replace hbt := below_then hbt hb1
    clear hb1
    go_wp2_with fail
    refine (enter_t 12 _ (by omega) (by omega)).mono ?_
    rintro e w2 ho
    obtain ⟨A2, c2, rfl, hr2, hb2⟩ := ho.got
    clear ho
    replace hbt := below_then hbt hb2
    replace hr1 := (hr1.below hb2).more hb2.size
    clear hb2
    go_wp2_with fail
    refine (Row2 _ _ _ _ _ _ _ hr1 (some_small _ _ (by omega)) hr2 (enter_small _ (by omega)) _ rfl).mono ?_
    rintro e wz ho
    replace ho : OwnSteps (rowOf 1) _ e wz := ho
    obtain ⟨A, c, rfl, hown, hbl⟩ := ho.open_
    clear ho
    go_wp2
    go_ret
    exact ⟨_, rfl, own_lower hown hbt.size, below_then hbt hbl⟩
  · as_aux_lemma =>
    go_enter Tryz.func114, Tryz.ntmps114
    have hbt : Below w.heap.size w w := Below.refl _ _
    go_wp2_with fail
    refine (next_t 2 _ (by omega) (by omega)).mono ?_
    rintro e w1 ho
    obtain ⟨A1, c1, rfl, hr1, hb1⟩ := ho.got
    clear ho
    replace hbt := below_then hbt hb1
    clear hb1
    go_wp2_with fail
    refine (enter_t 12 _ (by omega) (by omega)).mono ?_
    rintro e w2 ho
    obtain ⟨A2, c2, rfl, hr2, hb2⟩ := ho.got
    clear ho
    replace hbt := below_then hbt hb2
    replace hr1 := (hr1.below hb2).more hb2.size
    clear hb2
    go_wp2_with fail
    refine (Row2 _ _ _ _ _ _ _ hr1 (some_small _ _ (by omega)) hr2 (enter_small _ (by omega)) _ rfl).mono ?_
    rintro e wz ho
    replace ho : OwnSteps (rowOf 3) _ e wz := ho
    obtain ⟨A, c, rfl, hown, hbl⟩ := ho.open_
    clear ho
    go_wp2
    go_ret
    exact ⟨_, rfl, own_lower hown hbt.size, below_then hbt hbl⟩
  · as_aux_lemma =>
    go_enter Tryz.func114, Tryz.ntmps114
    have hbt : Below w.heap.size w w := Below.refl _ _
    go_wp2_with fail
    refine (next_t 2 _ (by omega) (by omega)).mono ?_
    rintro e w1 ho
    obtain ⟨A1, c1, rfl, hr1, hb1⟩ := ho.got
    clear ho
    replace hbt := below_then hbt hb1
    clear hb1
    go_wp2_with fail
    refine (enter_t 3 _ (by omega) (by omega)).mono ?_
    rintro e w2 ho
    obtain ⟨A2, c2, rfl, hr2, hb2⟩ := ho.got
    clear ho
    replace hbt := below_then hbt hb2
    replace hr1 := (hr1.below hb2).more hb2.size
    clear hb2
    go_wp2_with fail
    refine (Row2 _ _ _ _ _ _ _ hr1 (some_small _ _ (by omega)) hr2 (enter_small _ (by omega)) _ rfl).mono ?_
    rintro e wz ho
    replace ho : OwnSteps (rowOf 2) _ e wz := ho
    obtain ⟨A, c, rfl, hown, hbl⟩ := ho.open_
    clear ho
    go_wp2
    go_ret
    exact ⟨_, rfl, own_lower hown hbt.size, below_then hbt hbl⟩
  · as_aux_lemma =>
    go_enter Tryz.func114, Tryz.ntmps114
    go_wp2_with fail
    refine (vector_t _).mono ?_
    rintro e w1 ho
    obtain ⟨A, c, rfl, hown, hbl⟩ := ho.open_
    clear ho
    go_wp2
    go_ret
    exact ⟨_, rfl, hown, hbl⟩
  · as_aux_lemma =>
    go_enter Tryz.func114, Tryz.ntmps114
    go_wp2_with fail
    refine (vector_t _).mono ?_
    rintro e w1 ho
    obtain ⟨A, c, rfl, hown, hbl⟩ := ho.open_
    clear ho
    go_wp2
    go_ret
    exact ⟨_, rfl, hown, hbl⟩
  · as_aux_lemma =>
    go_enter Tryz.func114, Tryz.ntmps114
    go_wp2_with fail
    refine (vector_t _).mono ?_
    rintro e w1 ho
    obtain ⟨A, c, rfl, hown, hbl⟩ := ho.open_
    clear ho
    go_wp2
    go_ret
    exact ⟨_, rfl, hown, hbl⟩
  · as_aux_lemma =>
    go_enter Tryz.func114, Tryz.ntmps114
    go_wp2_with fail
    refine (vector_t _).mono ?_
    rintro e w1 ho
    obtain ⟨A, c, rfl, hown, hbl⟩ := ho.open_
    clear ho
    go_wp2
    go_ret
    exact ⟨_, rfl, hown, hbl⟩
  · as_aux_lemma =>
    have e1 : (k == 1) = false := beq_eq_false_iff_ne.mpr h1
    have e3 : (k == 3) = false := beq_eq_false_iff_ne.mpr h3
    have e2 : (k == 2) = false := beq_eq_false_iff_ne.mpr h2
    have e4 : (k == 4) = false := beq_eq_false_iff_ne.mpr h4
    have e5 : (k == 5) = false := beq_eq_false_iff_ne.mpr h5
    have e6 : (k == 6) = false := beq_eq_false_iff_ne.mpr h6
    have e7 : (k == 7) = false := beq_eq_false_iff_ne.mpr h7
    rw [show rowOf k = [] from by simp [rowOf, h1, h3, h2, h4, h5, h6, h7]]
    go_enter Tryz.func114, Tryz.ntmps114
    go_wp2
    go_ret
    exact OwnSteps.nil_ _
set_option maxRecDepth 100000 in
set_option maxHeartbeats 2000000 in
theorem ahead_t (m : Int) (w : World) :
    Calls Tryz.prog 164 #[.int .i64 m] w (OwnSteps (Sp.ahead m) w) := by
  rcases (show m = 1 ∨ m = 4 ∨ m = 6 ∨ m = 8 ∨ m = 9 ∨ m = 2 ∨ m = 7 ∨ m = 3 ∨ m = 5 ∨ (m ≠ 1 ∧ m ≠ 4 ∧ m ≠ 6 ∧ m ≠ 8 ∧ m ≠ 9 ∧ m ≠ 2 ∧ m ≠ 7 ∧ m ≠ 3 ∧ m ≠ 5) from by omega) with rfl | rfl | rfl | rfl | rfl | rfl | rfl | rfl | rfl | ⟨h1, h4, h6, h8, h9, h2, h7, h3, h5⟩
  · as_aux_lemma =>
    go_enter Tryz.func164, Tryz.ntmps164
    go_wp2_with fail
    refine (Some_t 2 1 (by omega) (by omega) _).mono ?_
    rintro e w1 ho
    obtain ⟨A, c, rfl, hown, hbl⟩ := ho.open_
    clear ho
    go_wp2
    go_ret
    exact ⟨_, rfl, hown, hbl⟩
  · as_aux_lemma =>
    go_enter Tryz.func164, Tryz.ntmps164
    go_wp2_with fail
    refine (Some_t 2 1 (by omega) (by omega) _).mono ?_
    rintro e w1 ho
    obtain ⟨A, c, rfl, hown, hbl⟩ := ho.open_
    clear ho
    go_wp2
    go_ret
    exact ⟨_, rfl, hown, hbl⟩
  · as_aux_lemma =>
    go_enter Tryz.func164, Tryz.ntmps164
    go_wp2_with fail
    refine (Some_t 2 1 (by omega) (by omega) _).mono ?_
    rintro e w1 ho
    obtain ⟨A, c, rfl, hown, hbl⟩ := ho.open_
    clear ho
    go_wp2
    go_ret
    exact ⟨_, rfl, hown, hbl⟩
  · as_aux_lemma =>
    go_enter Tryz.func164, Tryz.ntmps164
    go_wp2_with fail
    refine (Some_t 2 1 (by omega) (by omega) _).mono ?_
    rintro e w1 ho
    obtain ⟨A, c, rfl, hown, hbl⟩ := ho.open_
    clear ho
    go_wp2
    go_ret
    exact ⟨_, rfl, hown, hbl⟩
  · as_aux_lemma =>
    go_enter Tryz.func164, Tryz.ntmps164
    go_wp2_with fail
    refine (Some_t 2 1 (by omega) (by omega) _).mono ?_
    rintro e w1 ho
    obtain ⟨A, c, rfl, hown, hbl⟩ := ho.open_
    clear ho
    go_wp2
    go_ret
    exact ⟨_, rfl, hown, hbl⟩
  · as_aux_lemma =>
    go_enter Tryz.func164, Tryz.ntmps164
    go_wp2_with fail
    refine (Some_t 2 2 (by omega) (by omega) _).mono ?_
    rintro e w1 ho
    obtain ⟨A, c, rfl, hown, hbl⟩ := ho.open_
    clear ho
    go_wp2
    go_ret
    exact ⟨_, rfl, hown, hbl⟩
  · as_aux_lemma =>
    go_enter Tryz.func164, Tryz.ntmps164
    go_wp2_with fail
    refine (Some_t 2 2 (by omega) (by omega) _).mono ?_
    rintro e w1 ho
    obtain ⟨A, c, rfl, hown, hbl⟩ := ho.open_
    clear ho
    go_wp2
    go_ret
    exact ⟨_, rfl, hown, hbl⟩
  · as_aux_lemma =>
    go_enter Tryz.func164, Tryz.ntmps164
    have hbt : Below w.heap.size w w := Below.refl _ _
    go_wp2_with fail
    refine (Some_t 2 1 (by omega) (by omega) _).mono ?_
    rintro e w1 ho
    obtain ⟨A1, c1, rfl, hr1, hb1⟩ := ho.got
    clear ho
    replace hbt := below_then hbt hb1
    clear hb1
    go_wp2_with fail
    refine (Some_t 4 1 (by omega) (by omega) _).mono ?_
    rintro e w2 ho
    obtain ⟨A2, c2, rfl, hr2, hb2⟩ := ho.got
    clear ho
    replace hbt := below_then hbt hb2
    replace hr1 := (hr1.below hb2).more hb2.size
    clear hb2
    go_wp2_with fail
    refine (Row2 _ _ _ _ _ _ _ hr1 (some_small _ _ (by omega)) hr2 (some_small _ _ (by omega)) _ rfl).mono ?_
    rintro e wz ho
    replace ho : OwnSteps (Sp.ahead 3) _ e wz := ho
    obtain ⟨A, c, rfl, hown, hbl⟩ := ho.open_
    clear ho
    go_wp2
    go_ret
    exact ⟨_, rfl, own_lower hown hbt.size, below_then hbt hbl⟩
  · as_aux_lemma =>
    go_enter Tryz.func164, Tryz.ntmps164
    have hbt : Below w.heap.size w w := Below.refl _ _
    go_wp2_with fail
    refine (Some_t 2 2 (by omega) (by omega) _).mono ?_
    rintro e w1 ho
    obtain ⟨A1, c1, rfl, hr1, hb1⟩ := ho.got
    clear ho
    replace hbt := below_then hbt hb1
    clear hb1
    go_wp2_with fail
    refine (Some_t 4 1 (by omega) (by omega) _).mono ?_
    rintro e w2 ho
    obtain ⟨A2, c2, rfl, hr2, hb2⟩ := ho.got
    clear ho
    replace hbt := below_then hbt hb2
    replace hr1 := (hr1.below hb2).more hb2.size
    clear hb2
    go_wp2_with fail
    refine (Row2 _ _ _ _ _ _ _ hr1 (some_small _ _ (by omega)) hr2 (some_small _ _ (by omega)) _ rfl).mono ?_
    rintro e wz ho
    replace ho : OwnSteps (Sp.ahead 5) _ e wz := ho
    obtain ⟨A, c, rfl, hown, hbl⟩ := ho.open_
    clear ho
    go_wp2
    go_ret
    exact ⟨_, rfl, own_lower hown hbt.size, below_then hbt hbl⟩
  · as_aux_lemma =>
    have e1 : (m == 1) = false := beq_eq_false_iff_ne.mpr h1
    have e4 : (m == 4) = false := beq_eq_false_iff_ne.mpr h4
    have e6 : (m == 6) = false := beq_eq_false_iff_ne.mpr h6
    have e8 : (m == 8) = false := beq_eq_false_iff_ne.mpr h8
    have e9 : (m == 9) = false := beq_eq_false_iff_ne.mpr h9
    have e2 : (m == 2) = false := beq_eq_false_iff_ne.mpr h2
    have e7 : (m == 7) = false := beq_eq_false_iff_ne.mpr h7
    have e3 : (m == 3) = false := beq_eq_false_iff_ne.mpr h3
    have e5 : (m == 5) = false := beq_eq_false_iff_ne.mpr h5
    rw [show Sp.ahead m = [] from by simp [Sp.ahead, h1, h4, h6, h8, h9, h2, h7, h3, h5]]
    go_enter Tryz.func164, Tryz.ntmps164
    go_wp2
    go_ret
    exact OwnSteps.nil_ _
set_option maxRecDepth 100000 in
set_option maxHeartbeats 2000000 in
theorem tail_0 (op reg : Int) (b cc : UInt8) (w : World) :
    Calls Tryz.prog 165 #[.agg #[.int .i64 op, .int .i64 0, .int .i64 reg], .int .u8 (b.toNat : Int), .int .u8 (cc.toNat : Int)] w (OwnSteps (insideRow op) w) := by
  go_enter Tryz.func165, Tryz.ntmps165
  go_wp2_with fail
  refine (insideRow_t op _).mono ?_
  rintro e w1 ho
  obtain ⟨A, c, rfl, hown, hbl⟩ := ho.open_
  clear ho
  go_wp2
  go_ret
  exact ⟨_, rfl, own_lower hown (by simp), below_then (below_alloc (Below.refl _ _) _) hbl⟩
set_option maxRecDepth 100000 in
set_option maxHeartbeats 2000000 in
theorem tail_1 (op reg : Int) (b cc : UInt8) (w : World) :
    Calls Tryz.prog 165 #[.agg #[.int .i64 op, .int .i64 1, .int .i64 reg], .int .u8 (b.toNat : Int), .int .u8 (cc.toNat : Int)] w (OwnSteps (tail ⟨op, 1, reg⟩ b cc) w) := by
  rcases (show op = 43 ∨ op = 44 ∨ op = 41 ∨ (op ≠ 43 ∧ op ≠ 44 ∧ op ≠ 41) from by omega) with rfl | rfl | rfl | ⟨h43, h44, h41⟩
  · as_aux_lemma =>
    go_enter Tryz.func165, Tryz.ntmps165
    go_wp2_with fail
    refine (idle_t 1 _ (by omega) (by omega)).mono ?_
    rintro e w1 ho
    obtain ⟨A, c, rfl, hown, hbl⟩ := ho.open_
    clear ho
    go_wp2
    go_ret
    exact ⟨_, rfl, own_lower hown (by simp), below_then (below_alloc (Below.refl _ _) _) hbl⟩
  · as_aux_lemma =>
    go_enter Tryz.func165, Tryz.ntmps165
    go_wp2_with fail
    refine (idle_t 1 _ (by omega) (by omega)).mono ?_
    rintro e w1 ho
    obtain ⟨A, c, rfl, hown, hbl⟩ := ho.open_
    clear ho
    go_wp2
    go_ret
    exact ⟨_, rfl, own_lower hown (by simp), below_then (below_alloc (Below.refl _ _) _) hbl⟩
  · as_aux_lemma =>
    go_enter Tryz.func165, Tryz.ntmps165
    go_wp2_with fail
    refine (next_t 1 _ (by omega) (by omega)).mono ?_
    rintro e w1 ho
    obtain ⟨A1, c1, rfl, hr1, hb1⟩ := ho.got
    clear ho
    have hbt : Below w.heap.size w w1 := below_then (below_alloc (Below.refl _ _) _) hb1
    clear hb1
    go_wp2_with fail
    refine (idle_t 1 _ (by omega) (by omega)).mono ?_
    rintro e w2 ho
    obtain ⟨A2, c2, rfl, hr2, hb2⟩ := ho.got
    clear ho
    replace hbt := below_then hbt hb2
    replace hr1 := (hr1.below hb2).more hb2.size
    clear hb2
    go_wp2_with fail
    refine (push_t 12 _ (by omega) (by omega)).mono ?_
    rintro e w3 ho
    obtain ⟨A3, c3, rfl, hr3, hb3⟩ := ho.got
    clear ho
    replace hbt := below_then hbt hb3
    replace hr1 := (hr1.below hb3).more hb3.size
    replace hr2 := (hr2.below hb3).more hb3.size
    clear hb3
    go_wp2_with fail
    refine (Row3 _ _ _ _ _ _ _ _ _ _ hr1 (some_small _ _ (by omega)) hr2 (some_small _ _ (by omega)) hr3 (some_small _ _ (by omega)) _ rfl).mono ?_
    rintro e wz ho
    replace ho : OwnSteps (tail ⟨41, 1, reg⟩ b cc) _ e wz := ho
    obtain ⟨A, c, rfl, hown, hbl⟩ := ho.open_
    clear ho
    go_wp2
    go_ret
    exact ⟨_, rfl, own_lower hown hbt.size, below_then hbt hbl⟩
  · as_aux_lemma =>
    have e43 : (op == 43) = false := beq_eq_false_iff_ne.mpr h43
    have e44 : (op == 44) = false := beq_eq_false_iff_ne.mpr h44
    have e41 : (op == 41) = false := beq_eq_false_iff_ne.mpr h41
    rw [show tail ⟨op, 1, reg⟩ b cc = [] from by simp [tail, h43, h44, h41]]
    go_enter Tryz.func165, Tryz.ntmps165
    go_wp2
    go_ret
    exact ⟨_, rfl, own_nil _ _ _ _, below_alloc (Below.refl _ _) _⟩
set_option maxRecDepth 100000 in
set_option maxHeartbeats 2000000 in
theorem tail_2 (op reg : Int) (b cc : UInt8) (w : World) :
    Calls Tryz.prog 165 #[.agg #[.int .i64 op, .int .i64 2, .int .i64 reg], .int .u8 (b.toNat : Int), .int .u8 (cc.toNat : Int)] w (OwnSteps (tail ⟨op, 2, reg⟩ b cc) w) := by
  obtain ⟨g, hg⟩ : ∃ g, group op = g := ⟨_, rfl⟩
  have HG := Lib.hid (fun W => group_t op W)
  rw [hg] at HG
  by_cases h7 : g = 7
  · rw [show tail ⟨op, 2, reg⟩ b cc = some_ 4 1 from by simp [tail, hg, h7]]
    subst h7
    clear hg
    go_enter Tryz.func165, Tryz.ntmps165
    go_wp2_with fail
    refine (HG.out _).mono ?_
    rintro e w0 ⟨rfl, rfl⟩
    go_wp2_with fail
    refine (idle_t 1 _ (by omega) (by omega)).mono ?_
    rintro e w1 ho
    obtain ⟨A, c, rfl, hown, hbl⟩ := ho.open_
    clear ho
    go_wp2
    go_ret
    exact ⟨_, rfl, own_lower hown (by simp), below_then (below_alloc (Below.refl _ _) _) hbl⟩
  · have e7 : (g == 7) = false := beq_eq_false_iff_ne.mpr h7
    rw [show tail ⟨op, 2, reg⟩ b cc = [] from by simp [tail, hg, h7]]
    clear hg h7
    go_enter Tryz.func165, Tryz.ntmps165
    go_wp2_with fail
    refine (HG.out _).mono ?_
    rintro e w0 ⟨rfl, rfl⟩
    go_wp2
    go_ret
    exact ⟨_, rfl, own_nil _ _ _ _, below_alloc (Below.refl _ _) _⟩
set_option maxRecDepth 100000 in
set_option maxHeartbeats 2000000 in
theorem tail_6 (op reg : Int) (b cc : UInt8) (w : World) :
    Calls Tryz.prog 165 #[.agg #[.int .i64 op, .int .i64 6, .int .i64 reg], .int .u8 (b.toNat : Int), .int .u8 (cc.toNat : Int)] w (OwnSteps (branchRow ⟨op, 6, reg⟩ cc) w) := by
  go_enter Tryz.func165, Tryz.ntmps165
  go_wp2_with fail
  refine (branchRow_t op 6 reg cc _).mono ?_
  rintro e w1 ho
  obtain ⟨A, c, rfl, hown, hbl⟩ := ho.open_
  clear ho
  go_wp2
  go_ret
  exact ⟨_, rfl, own_lower hown (by simp), below_then (below_alloc (Below.refl _ _) _) hbl⟩
set_option maxRecDepth 100000 in
set_option maxHeartbeats 2000000 in
theorem tail_7 (op reg : Int) (b cc : UInt8) (w : World) :
    Calls Tryz.prog 165 #[.agg #[.int .i64 op, .int .i64 7, .int .i64 reg], .int .u8 (b.toNat : Int), .int .u8 (cc.toNat : Int)] w (OwnSteps (branchRow ⟨op, 7, reg⟩ cc) w) := by
  go_enter Tryz.func165, Tryz.ntmps165
  go_wp2_with fail
  refine (branchRow_t op 7 reg cc _).mono ?_
  rintro e w1 ho
  obtain ⟨A, c, rfl, hown, hbl⟩ := ho.open_
  clear ho
  go_wp2
  go_ret
  exact ⟨_, rfl, own_lower hown (by simp), below_then (below_alloc (Below.refl _ _) _) hbl⟩
set_option maxRecDepth 100000 in
set_option maxHeartbeats 2000000 in
theorem tail_8 (op reg : Int) (b cc : UInt8) (w : World) :
    Calls Tryz.prog 165 #[.agg #[.int .i64 op, .int .i64 8, .int .i64 reg], .int .u8 (b.toNat : Int), .int .u8 (cc.toNat : Int)] w (OwnSteps (tail ⟨op, 8, reg⟩ b cc) w) := by
  rcases (show op = 46 ∨ (op ≠ 46) from by omega) with rfl | ⟨h46⟩
  · as_aux_lemma =>
    go_enter Tryz.func165, Tryz.ntmps165
    go_wp2_with fail
    refine (idle_t 6 _ (by omega) (by omega)).mono ?_
    rintro e w1 ho
    obtain ⟨A, c, rfl, hown, hbl⟩ := ho.open_
    clear ho
    go_wp2
    go_ret
    exact ⟨_, rfl, own_lower hown (by simp), below_then (below_alloc (Below.refl _ _) _) hbl⟩
  · as_aux_lemma =>
    have e46 : (op == 46) = false := beq_eq_false_iff_ne.mpr h46
    rw [show tail ⟨op, 8, reg⟩ b cc = some_ 4 4 from by simp [tail, h46]]
    go_enter Tryz.func165, Tryz.ntmps165
    go_wp2_with fail
    refine (idle_t 4 _ (by omega) (by omega)).mono ?_
    rintro e w1 ho
    obtain ⟨A, c, rfl, hown, hbl⟩ := ho.open_
    clear ho
    go_wp2
    go_ret
    exact ⟨_, rfl, own_lower hown (by simp), below_then (below_alloc (Below.refl _ _) _) hbl⟩
set_option maxRecDepth 100000 in
set_option maxHeartbeats 2000000 in
theorem tail_9 (op reg : Int) (b cc : UInt8) (w : World) :
    Calls Tryz.prog 165 #[.agg #[.int .i64 op, .int .i64 9, .int .i64 reg], .int .u8 (b.toNat : Int), .int .u8 (cc.toNat : Int)] w (OwnSteps (manyRow op b) w) := by
  go_enter Tryz.func165, Tryz.ntmps165
  go_wp2_with fail
  refine (manyRow_t op b _).mono ?_
  rintro e w1 ho
  obtain ⟨A, c, rfl, hown, hbl⟩ := ho.open_
  clear ho
  go_wp2
  go_ret
  exact ⟨_, rfl, own_lower hown (by simp), below_then (below_alloc (Below.refl _ _) _) hbl⟩
set_option maxRecDepth 100000 in
set_option maxHeartbeats 2000000 in
theorem tail_else (op mode reg : Int) (b cc : UInt8) (w : World) (h0 : mode ≠ 0) (h1 : mode ≠ 1) (h2 : mode ≠ 2) (h6 : mode ≠ 6) (h7 : mode ≠ 7) (h8 : mode ≠ 8) (h9 : mode ≠ 9) :
    Calls Tryz.prog 165 #[.agg #[.int .i64 op, .int .i64 mode, .int .i64 reg], .int .u8 (b.toNat : Int), .int .u8 (cc.toNat : Int)] w (OwnSteps (memoryRow (group op)) w) := by
  have e0 : (mode == 0) = false := beq_eq_false_iff_ne.mpr h0
  have e1 : (mode == 1) = false := beq_eq_false_iff_ne.mpr h1
  have e2 : (mode == 2) = false := beq_eq_false_iff_ne.mpr h2
  have e6 : (mode == 6) = false := beq_eq_false_iff_ne.mpr h6
  have e7 : (mode == 7) = false := beq_eq_false_iff_ne.mpr h7
  have e8 : (mode == 8) = false := beq_eq_false_iff_ne.mpr h8
  have e9 : (mode == 9) = false := beq_eq_false_iff_ne.mpr h9
  have HG := Lib.hid (fun W => group_t op W)
  generalize group op = g at *
  go_enter Tryz.func165, Tryz.ntmps165
  go_wp2_with fail
  refine (HG.out _).mono ?_
  rintro e w0 ⟨rfl, rfl⟩
  go_wp2_with fail
  refine (memoryRow_t g _).mono ?_
  rintro e w1 ho
  obtain ⟨A, c, rfl, hown, hbl⟩ := ho.open_
  clear ho
  go_wp2
  go_ret
  exact ⟨_, rfl, own_lower hown (by simp), below_then (below_alloc (Below.refl _ _) _) hbl⟩
theorem tail_t (op mode reg : Int) (b cc : UInt8) (w : World) : Calls Tryz.prog 165 #[.agg #[.int .i64 op, .int .i64 mode, .int .i64 reg], .int .u8 (b.toNat : Int), .int .u8 (cc.toNat : Int)] w (OwnSteps (tail ⟨op, mode, reg⟩ b cc) w) := by
  by_cases h0 : mode = 0
  · subst h0; exact tail_0 op reg b cc w
  by_cases h1 : mode = 1
  · subst h1; exact tail_1 op reg b cc w
  by_cases h2 : mode = 2
  · subst h2; exact tail_2 op reg b cc w
  by_cases h6 : mode = 6
  · subst h6; exact tail_6 op reg b cc w
  by_cases h7 : mode = 7
  · subst h7; exact tail_7 op reg b cc w
  by_cases h8 : mode = 8
  · subst h8; exact tail_8 op reg b cc w
  by_cases h9 : mode = 9
  · subst h9; exact tail_9 op reg b cc w
  rw [show tail ⟨op, mode, reg⟩ b cc = memoryRow (group op) from by simp [tail, h0, h1, h2, h6, h7, h8, h9]]
  exact tail_else op mode reg b cc w h0 h1 h2 h6 h7 h8 h9
end Go.Proofs.YtkdaphkpllgmbaaGreat

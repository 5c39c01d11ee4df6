/-
  The walk of the law DifferSame: for every two traces it returns true.
-/
import Derived.Test.YtgebopmiefgdoaaDifferLaw
import Derived.Test.YtgebopmiefgdoaaReport
namespace Go.Proofs.Ytgebopmiefgdoaa
open Go.RowKit
theorem alive51 (w : World) :
    Calls Try.prog 102 #[] w fun e w' => e = .returned (.bool true) ∧ Below w.heap.size w w' := by
  have HF : Hid (∀ W : World, Calls Try.prog 99 #[.slice none 0 0, .slice (some ⟨W.heap.size, 0, none⟩) 1 1] (W.alloc (.cells #[.int .u16 0, .int .u8 0, .bool false, .bool false, .bool false, .bool false, .bool false, .bool false, .bool false] 64)) fun e w' => e = .returned (.int .i64 0) ∧ Below (W.alloc (.cells #[.int .u16 0, .int .u8 0, .bool false, .bool false, .bool false, .bool false, .bool false, .bool false, .bool false] 64)).heap.size (W.alloc (.cells #[.int .u16 0, .int .u8 0, .bool false, .bool false, .bool false, .bool false, .bool false, .bool false, .bool false] 64)) w') := fun W =>
    First_any [] [⟨0, 0, false, false, false, false, false, false, false⟩] none (some ⟨W.heap.size, 0, none⟩) 0 0 1 1 0 (W.heap.size + 1) _ Reads.none_ (Reads.newS W _ _ 1 9 _ rfl (Nat.lt_succ_self _)) (by omega) (by omega)
  go_enter Try.func102, Try.ntmps102
  go_wp2_with fail
  refine (HF.out w).mono ?_
  rintro e w1 ⟨rfl, hb⟩
  go_wp2
  go_ret
  exact ⟨rfl, below_then (below_alloc (Below.refl _ _) _) hb⟩
set_option maxRecDepth 100000 in
set_option maxHeartbeats 4000000 in
theorem DifferSame_walk (w : World) (a : Sl Rec) (ga : a.Good w 9 Rec.cells Rec.Good) (b : Sl Rec) (gb : b.Good w 9 Rec.cells Rec.Good) :
    Calls Try.prog 18 #[a.v, b.v] w fun e w' => e = .returned (.bool true) ∧ Below w.heap.size w w' := by
  obtain ⟨A, n, c, xs⟩ := a
  obtain ⟨_, _, hr0, hlen, hall⟩ := ga
  obtain ⟨A2, n2, c2, ys⟩ := b
  obtain ⟨_, _, hr20, hlen2, hall2⟩ := gb
  dsimp only [Sl.v] at *
  have hr : Reads w w.heap.size 9 A n (recsV xs) := hr0
  have hr2 : Reads w w.heap.size 9 A2 n2 (recsV ys) := hr20
  have hl1 : xs.length = n := hlen
  have hl2 : ys.length = n2 := hlen2
  clear hr0 hr20 hlen hlen2
  by_cases hbig : 100 < n
  · go_enter Try.func18, Try.ntmps18
    go_wp2
    go_ret
    exact ⟨rfl, Below.refl _ _⟩
  by_cases hbig2 : 100 < n2
  · go_enter Try.func18, Try.ntmps18
    go_wp2
    go_ret
    exact ⟨rfl, Below.refl _ _⟩
  obtain ⟨S, hS⟩ : ∃ S, S = decide (xs = ys) := ⟨_, rfl⟩
  obtain ⟨p, hp⟩ : ∃ p, p = firstL xs ys 0 := ⟨_, rfl⟩
  obtain ⟨q, hq⟩ : ∃ q, q = countL xs ys := ⟨_, rfl⟩
  obtain ⟨R, hR⟩ : ∃ R, R = repF xs ys (max n n2) 0 (9 : Int).toNat := ⟨_, rfl⟩
  have HEQ : Hid (∀ W : World, Below w.heap.size w W → Calls Try.prog 53 #[.slice A n c, .slice A2 n2 c2] W fun e w' => e = .returned (.bool S) ∧ Below W.heap.size W w') := fun W hb => by
    rw [hS]; exact EqRec_any xs ys A A2 n c n2 c2 _ _ W (hr.below hb) (hr2.below hb) (by omega) (by omega)
  have HF1 : Hid (∀ W : World, Below w.heap.size w W → Calls Try.prog 99 #[.slice A n c, .slice A2 n2 c2] W fun e w' => e = .returned (.int .i64 p) ∧ Below W.heap.size W w') := fun W hb => by
    rw [hp]; exact First_any xs ys A A2 n c n2 c2 _ _ W (hr.below hb) (hr2.below hb) (by omega) (by omega)
  have HF2 : Hid (∀ W : World, Below w.heap.size w W → Calls Try.prog 99 #[.slice A2 n2 c2, .slice A n c] W fun e w' => e = .returned (.int .i64 p) ∧ Below W.heap.size W w') := fun W hb => by
    rw [hp, ← firstL_comm]; exact First_any ys xs A2 A n2 c2 n c _ _ W (hr2.below hb) (hr.below hb) (by omega) (by omega)
  have HF3 : Hid (∀ W : World, Below w.heap.size w W → Calls Try.prog 99 #[.slice A n c, .slice A n c] W fun e w' => e = .returned (.int .i64 (-1)) ∧ Below W.heap.size W w') := fun W hb => by
    have h := First_any xs xs A A n c n c _ _ W (hr.below hb) (hr.below hb) (by omega) (by omega)
    rw [firstL_self] at h
    exact h
  have HC1 : Hid (∀ W : World, Below w.heap.size w W → Calls Try.prog 100 #[.slice A n c, .slice A2 n2 c2] W fun e w' => e = .returned (.int .i64 (q : Nat)) ∧ Below W.heap.size W w') := fun W hb => by
    rw [hq]; exact Count_any xs ys A A2 n c n2 c2 _ _ W (hr.below hb) (hr2.below hb) (by omega) (by omega)
  have HC2 : Hid (∀ W : World, Below w.heap.size w W → Calls Try.prog 100 #[.slice A2 n2 c2, .slice A n c] W fun e w' => e = .returned (.int .i64 (q : Nat)) ∧ Below W.heap.size W w') := fun W hb => by
    rw [hq, ← countL_comm]; exact Count_any ys xs A2 A n2 c2 n c _ _ W (hr2.below hb) (hr.below hb) (by omega) (by omega)
  have HRP : Hid (∀ W : World, Below w.heap.size w W → Calls Try.prog 101 #[.int .i64 9, .slice A n c, .slice A2 n2 c2] W fun e w' => e = .returned (.string ⟨R.toArray⟩) ∧ Below W.heap.size W w') := fun W hb => by
    rw [hR]; exact Report_any 9 xs ys A A2 n c n2 c2 W ((hr.below hb).more hb.size) ((hr2.below hb).more hb.size) hall hall2 (by omega) (by omega) (by omega) (by omega)
  have hcase : (S = true ∧ p = -1 ∧ q = 0 ∧ R = []) ∨ (S = false ∧ 0 ≤ p ∧ 0 < q ∧ R ≠ []) := by
    by_cases h : xs = ys
    · left
      subst h
      refine ⟨by rw [hS]; simp, by rw [hp, firstL_self], by rw [hq, countL_self], by rw [hR, repF_self]⟩
    · right
      exact ⟨by rw [hS]; simp [h], by rw [hp]; exact firstL_ne _ _ _ h, by rw [hq]; exact countL_ne _ _ h, by rw [hR]; exact repF_ne xs ys n n2 8 hl1 hl2 h⟩
  clear hS hp hq hR hall hall2 hr hr2 hl1 hl2
  rcases hcase with ⟨rfl, rfl, rfl, rfl⟩ | ⟨rfl, hp, hq, hR⟩
  · go_enter Try.func18, Try.ntmps18
    go_wp2_with fail
    refine (HEQ.out w (Below.refl _ _)).mono ?_
    rintro e w1 ⟨rfl, h1⟩
    go_wp2_with fail
    refine (HF1.out w1 h1).mono ?_
    rintro e w2 ⟨rfl, h2⟩
    replace h2 := below_then h1 h2
    go_wp2_with fail
    refine (HC1.out w2 h2).mono ?_
    rintro e w3 ⟨rfl, h3⟩
    replace h3 := below_then h2 h3
    go_wp2_with fail
    refine (HRP.out w3 h3).mono ?_
    rintro e w4 ⟨rfl, h4⟩
    replace h4 := below_then h3 h4
    go_wp2_with fail
    refine (HF1.out w4 h4).mono ?_
    rintro e w5 ⟨rfl, h5⟩
    replace h5 := below_then h4 h5
    go_wp2_with fail
    refine (HF2.out w5 h5).mono ?_
    rintro e w6 ⟨rfl, h6⟩
    replace h6 := below_then h5 h6
    go_wp2_with fail
    refine (HC1.out w6 h6).mono ?_
    rintro e w7 ⟨rfl, h7⟩
    replace h7 := below_then h6 h7
    go_wp2_with fail
    refine (HC2.out w7 h7).mono ?_
    rintro e w8 ⟨rfl, h8⟩
    replace h8 := below_then h7 h8
    go_wp2_with fail
    refine (HF3.out w8 h8).mono ?_
    rintro e w9 ⟨rfl, h9⟩
    replace h9 := below_then h8 h9
    go_wp2_with fail
    refine (alive51 w9).mono ?_
    rintro e w10 ⟨rfl, h10⟩
    go_wp2
    go_ret
    exact ⟨rfl, below_then h9 h10⟩
  · obtain ⟨r0, R', rfl⟩ : ∃ r0 R', R = r0 :: R' := by
      cases R with
      | nil => exact absurd rfl hR
      | cons r0 R' => exact ⟨r0, R', rfl⟩
    clear hR
    obtain ⟨q', rfl⟩ : ∃ q', q = q' + 1 := ⟨q - 1, by omega⟩
    have hpd : decide (p < 0) = false := decide_eq_false (by omega)
    have hqd : (((q' + 1 : Nat) : Int) == 0) = false := beq_eq_false_iff_ne.2 (by omega)
    obtain ⟨Q, hQ⟩ : ∃ Q : Int, Q = ((q' + 1 : Nat) : Int) := ⟨_, rfl⟩
    rw [← hQ] at hqd HC1 HC2
    have hQ0 : 0 < Q := by omega
    clear hQ hq
    go_enter Try.func18, Try.ntmps18
    go_wp2_with fail
    refine (HEQ.out w (Below.refl _ _)).mono ?_
    rintro e w1 ⟨rfl, h1⟩
    go_wp2_with fail
    refine (HF1.out w1 h1).mono ?_
    rintro e w2 ⟨rfl, h2⟩
    replace h2 := below_then h1 h2
    go_wp2_with fail
    refine (HC1.out w2 h2).mono ?_
    rintro e w3 ⟨rfl, h3⟩
    replace h3 := below_then h2 h3
    go_wp2_with fail
    refine (HRP.out w3 h3).mono ?_
    rintro e w4 ⟨rfl, h4⟩
    replace h4 := below_then h3 h4
    go_wp2_with fail
    refine (HF1.out w4 h4).mono ?_
    rintro e w5 ⟨rfl, h5⟩
    replace h5 := below_then h4 h5
    go_wp2_with fail
    refine (HF2.out w5 h5).mono ?_
    rintro e w6 ⟨rfl, h6⟩
    replace h6 := below_then h5 h6
    go_wp2_with fail
    refine (HC1.out w6 h6).mono ?_
    rintro e w7 ⟨rfl, h7⟩
    replace h7 := below_then h6 h7
    go_wp2_with fail
    refine (HC2.out w7 h7).mono ?_
    rintro e w8 ⟨rfl, h8⟩
    replace h8 := below_then h7 h8
    go_wp2_with fail
    refine (HF3.out w8 h8).mono ?_
    rintro e w9 ⟨rfl, h9⟩
    replace h9 := below_then h8 h9
    go_wp2_with fail
    refine (alive51 w9).mono ?_
    rintro e w10 ⟨rfl, h10⟩
    go_wp2
    go_ret
    exact ⟨rfl, below_then h9 h10⟩
end Go.Proofs.Ytgebopmiefgdoaa

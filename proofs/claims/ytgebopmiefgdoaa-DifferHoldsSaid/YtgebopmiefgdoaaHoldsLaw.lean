/-
  The plain law of DifferHolds: what the law holds at each place.
-/
import Derived.Test.YtgebopmiefgdoaaDifferLaw
namespace Go.Proofs.Ytgebopmiefgdoaa
open Go.RowKit
/-- What the law holds at place k: the first place (or none yet), how often, the text. -/
def HoldsAt (xs ys : List Rec) (N : Nat) (most : Int) (k : Nat) (F q : Int) (T : List UInt8) : Prop :=
  ((F = -1 ∧ firstL (xs.drop k) (ys.drop k) k = firstL xs ys 0) ∨ (0 ≤ F ∧ F = firstL xs ys 0)) ∧
  q + countL (xs.drop k) (ys.drop k) = countL xs ys ∧ 0 ≤ q ∧ q ≤ k ∧
  T ++ repF xs ys (N - k) k (most - q).toNat = repF xs ys N 0 most.toNat ∧ T.length ≤ 1000 * k ∧ F ≤ k ∧ -1 ≤ F
theorem countL_both (x y : Rec) (a b : List Rec) : countL (x :: a) (y :: b) = (if x = y then 0 else 1) + countL a b := by
  unfold countL
  simp only [cmpL, List.length_cons]
  omega
theorem countL_left (x : Rec) (a : List Rec) : countL (x :: a) [] = 1 + countL a [] := by
  unfold countL
  simp only [cmpL, cmpL_nil2, List.length_cons, List.length_nil]
  omega
theorem countL_right (y : Rec) (b : List Rec) : countL [] (y :: b) = 1 + countL [] b := by
  unfold countL
  simp only [cmpL, List.length_cons, List.length_nil]
  omega
/-- At a place where they are the same nothing turns. -/
theorem holds_same (xs ys : List Rec) (N : Nat) (most : Int) (k : Nat) (F q : Int) (T : List UInt8) (x y : Rec) (hk : k < N) (hx : xs[k]? = some x) (hy : ys[k]? = some y) (hxy : x = y) (h : HoldsAt xs ys N most k F q T) : HoldsAt xs ys N most (k + 1) F q T := by
  obtain ⟨h1, h2, h3, h4, h5, h6, h7, h8⟩ := h
  rw [drop_at xs k x hx, drop_at ys k y hy] at h1 h2
  rw [countL_both, if_pos hxy] at h2
  simp only [firstL, if_pos hxy] at h1
  refine ⟨h1, by push_cast at h2; omega, h3, by omega, ?_, by omega, by omega, h8⟩
  obtain ⟨f, hf⟩ : ∃ f, N - k = f + 1 := ⟨N - k - 1, by omega⟩
  rw [show N - (k + 1) = f by omega]
  rw [hf] at h5
  have he : xs[k]? = ys[k]? := by rw [hx, hy, hxy]
  rcases Int.lt_or_le 0 (most - q) with hq | hq
  · rw [repF_skip xs ys f k _ hq he] at h5
    exact h5
  · rw [show (most - q).toNat = 0 by omega, repF_zero] at h5 ⊢
    exact h5
/-- At a place where they differ. -/
theorem holds_differ (xs ys : List Rec) (N : Nat) (most : Int) (k : Nat) (F q : Int) (T : List UInt8) (hk : k < N) (hN : N = max xs.length ys.length) (hb : k < 18446744073709551616) (hne : xs[k]? ≠ ys[k]?) (h : HoldsAt xs ys N most k F q T) :
    HoldsAt xs ys N most (k + 1) (if F < 0 then (k : Int) else F) (q + 1) (if q < most then T ++ lineL k xs[k]? ys[k]? else T) := by
  obtain ⟨h1, h2, h3, h4, h5, h6, h7, h8⟩ := h
  have hfc : firstL (xs.drop k) (ys.drop k) k = (k : Int) ∧ countL (xs.drop k) (ys.drop k) = 1 + countL (xs.drop (k + 1)) (ys.drop (k + 1)) := by
    rcases Nat.lt_or_ge k xs.length with hx | hx
    · rw [drop_at xs k _ (List.getElem?_eq_getElem hx)]
      rcases Nat.lt_or_ge k ys.length with hy | hy
      · rw [drop_at ys k _ (List.getElem?_eq_getElem hy)]
        have hxy : xs[k] ≠ ys[k] := fun e => hne (by rw [List.getElem?_eq_getElem hx, List.getElem?_eq_getElem hy, e])
        exact ⟨by simp only [firstL, if_neg hxy], by rw [countL_both, if_neg hxy]⟩
      · rw [List.drop_of_length_le hy, List.drop_of_length_le (by omega : ys.length ≤ k + 1)]
        exact ⟨rfl, countL_left _ _⟩
    · have hy : k < ys.length := by omega
      rw [List.drop_of_length_le hx, List.drop_of_length_le (by omega : xs.length ≤ k + 1), drop_at ys k _ (List.getElem?_eq_getElem hy)]
      exact ⟨rfl, countL_right _ _⟩
  rw [hfc.1] at h1
  rw [hfc.2] at h2
  have hll := lineL_len k xs[k]? ys[k]? hb
  refine ⟨?_, by push_cast at h2; omega, by omega, by omega, ?_, ?_, ?_, ?_⟩
  · right
    rcases h1 with ⟨rfl, h1⟩ | ⟨h0, h1⟩
    · rw [if_pos (by omega)]
      exact ⟨by omega, h1⟩
    · rw [if_neg (by omega)]
      exact ⟨h0, h1⟩
  · obtain ⟨f, hf⟩ : ∃ f, N - k = f + 1 := ⟨N - k - 1, by omega⟩
    rw [show N - (k + 1) = f by omega]
    rw [hf] at h5
    by_cases hq : q < most
    · rw [if_pos hq]
      rw [repF_line xs ys f k _ (by omega) hne, ← List.append_assoc] at h5
      rw [show most - (q + 1) = most - q - 1 by omega]
      exact h5
    · rw [if_neg hq]
      rw [show (most - q).toNat = 0 by omega, repF_zero] at h5
      rw [show (most - (q + 1)).toNat = 0 by omega, repF_zero]
      exact h5
  · split
    · rw [List.length_append]; omega
    · omega
  · split <;> omega
  · split <;> omega
theorem holds_end (xs ys : List Rec) (N : Nat) (most : Int) (F q : Int) (T : List UInt8) (hx : xs.length ≤ N) (hy : ys.length ≤ N) (h : HoldsAt xs ys N most N F q T) : F = firstL xs ys 0 ∧ q = (countL xs ys : Nat) ∧ T = repF xs ys N 0 most.toNat := by
  obtain ⟨h1, h2, h3, h4, h5, h6, h7, h8⟩ := h
  rw [List.drop_of_length_le hx, List.drop_of_length_le hy] at h1 h2
  refine ⟨?_, ?_, ?_⟩
  · rcases h1 with ⟨rfl, h1⟩ | ⟨_, h1⟩
    · exact h1
    · exact h1
  · have : countL [] [] = 0 := rfl
    rw [this] at h2
    push_cast at h2
    omega
  · rw [Nat.sub_self] at h5
    exact (List.append_nil T).symm.trans h5
end Go.Proofs.Ytgebopmiefgdoaa

/-
  The plain law of two traces: they are the same just if they differ nowhere.
-/
import Derived.Test.YtgebopmiefgdoaaReport0
namespace Go.Proofs.Ytgebopmiefgdoaa
open Go.RowKit
theorem firstL_self (xs : List Rec) (i : Nat) : firstL xs xs i = -1 := by
  induction xs generalizing i with
  | nil => rfl
  | cons x xs ih => simp only [firstL, if_true]; exact ih _
theorem firstL_ne (xs ys : List Rec) (i : Nat) (h : xs ≠ ys) : 0 ≤ firstL xs ys i := by
  induction xs generalizing ys i with
  | nil => cases ys with
    | nil => exact absurd rfl h
    | cons y ys => simp only [firstL]; omega
  | cons x xs ih => cases ys with
    | nil => simp only [firstL]; omega
    | cons y ys =>
      simp only [firstL]
      split
      · rename_i e
        exact ih ys (i + 1) fun e2 => h (by rw [e, e2])
      · omega
theorem firstL_comm (xs ys : List Rec) (i : Nat) : firstL ys xs i = firstL xs ys i := by
  induction xs generalizing ys i with
  | nil => cases ys <;> rfl
  | cons x xs ih => cases ys with
    | nil => rfl
    | cons y ys =>
      simp only [firstL]
      by_cases e : x = y
      · rw [if_pos e, if_pos e.symm]; exact ih ys (i + 1)
      · rw [if_neg e, if_neg fun e2 => e e2.symm]
theorem cmpL_comm (xs ys : List Rec) : cmpL ys xs = cmpL xs ys := by
  induction xs generalizing ys with
  | nil => cases ys <;> rfl
  | cons x xs ih => cases ys with
    | nil => rfl
    | cons y ys =>
      simp only [cmpL]
      rw [ih ys]
      by_cases e : x = y
      · rw [if_pos e, if_pos e.symm]
      · rw [if_neg e, if_neg fun e2 => e e2.symm]
theorem countL_comm (xs ys : List Rec) : countL ys xs = countL xs ys := by
  unfold countL
  rw [cmpL_comm, Nat.max_comm, Nat.min_comm]
theorem cmpL_self (xs : List Rec) : cmpL xs xs = 0 := by
  induction xs with
  | nil => rfl
  | cons x xs ih => simp only [cmpL, if_true, ih]
theorem countL_self (xs : List Rec) : countL xs xs = 0 := by
  unfold countL
  rw [cmpL_self, Nat.max_self, Nat.min_self]
  omega
theorem cmpL_ne (xs ys : List Rec) (hl : xs.length = ys.length) (h : xs ≠ ys) : 0 < cmpL xs ys := by
  induction xs generalizing ys with
  | nil => cases ys with
    | nil => exact absurd rfl h
    | cons y ys => simp at hl
  | cons x xs ih => cases ys with
    | nil => simp at hl
    | cons y ys =>
      simp only [cmpL]
      by_cases e : x = y
      · have := ih ys (by simpa using hl) fun e2 => h (by rw [e, e2])
        omega
      · rw [if_neg e]; omega
theorem countL_ne (xs ys : List Rec) (h : xs ≠ ys) : 0 < countL xs ys := by
  unfold countL
  by_cases hl : xs.length = ys.length
  · have := cmpL_ne xs ys hl h
    omega
  · omega
theorem repF_self (xs : List Rec) (f i m : Nat) : repF xs xs f i m = [] := by
  induction f generalizing i m with
  | zero => rfl
  | succ f ih => cases m with
    | zero => rfl
    | succ m => simp only [repF, if_true]; exact ih _ _
theorem lineL_pos (i : Nat) (ox oy : Option Rec) : lineL i ox oy ≠ [] := by
  unfold lineL
  simp
theorem repF_nil (xs ys : List Rec) (f i m : Nat) (h : repF xs ys f i (m + 1) = []) : ∀ j, i ≤ j → j < i + f → xs[j]? = ys[j]? := by
  induction f generalizing i with
  | zero => intro j h1 h2; omega
  | succ f ih =>
    intro j h1 h2
    simp only [repF] at h
    by_cases e : xs[i]? = ys[i]?
    · rw [if_pos e] at h
      rcases Nat.eq_or_lt_of_le h1 with rfl | h3
      · exact e
      · exact ih (i + 1) h j h3 (by omega)
    · rw [if_neg e] at h
      exact absurd (List.append_eq_nil_iff.1 h).1 (lineL_pos _ _ _)
theorem repF_ne (xs ys : List Rec) (n n2 m : Nat) (h1 : xs.length = n) (h2 : ys.length = n2) (h : xs ≠ ys) : repF xs ys (max n n2) 0 (m + 1) ≠ [] := fun e => h (by
  apply List.ext_getElem?
  intro j
  by_cases hj : j < max n n2
  · exact repF_nil xs ys _ 0 m e j (by omega) (by omega)
  · rw [List.getElem?_eq_none (by omega), List.getElem?_eq_none (by omega)])
end Go.Proofs.Ytgebopmiefgdoaa

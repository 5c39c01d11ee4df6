/-
  Plain lists and numbers: the digits of a number to a base, and their count; the number of a row of digits. No function of the program.
-/
namespace Go.Proofs.Ytgebopmiefgdoaa

/-! ### Digits of a number -/
/-- The sign of a digit. -/
def dig (n : Nat) : UInt8 := UInt8.ofNat (if n < 10 then 48 + n else 55 + n)
/-- The last k digits of n to the base b, the highest first. -/
def ndig (b : Nat) : Nat → Nat → List UInt8
  | 0, _ => []
  | k + 1, n => dig (n / b ^ k % b) :: ndig b k n
theorem ndig_length (b k n : Nat) : (ndig b k n).length = k := by
  induction k with
  | zero => rfl
  | succ k ih => simp [ndig, ih]
/-- Does the loop go on at k digits? -/
def more (b n w k : Nat) : Bool := decide (0 < n / b ^ k) || (decide (k = 0) || decide (k < w))
def kdF (b n w : Nat) : Nat → Nat → Nat
  | 0, k => k
  | f + 1, k => if more b n w k then kdF b n w f (k + 1) else k
/-- How many digits: as many as are wanted, one at the least. -/
def kd (b n w : Nat) : Nat := kdF b n w 64 0
theorem kdF_spec (b n w M : Nat) (hM : more b n w M = false) : ∀ f k, k ≤ M → M < k + f + 1 → (∀ j, k ≤ j → j < kdF b n w f k → more b n w j = true) ∧ more b n w (kdF b n w f k) = false ∧ k ≤ kdF b n w f k ∧ kdF b n w f k ≤ M
  | 0, k, h1, h2 => by
    obtain rfl : k = M := by omega
    exact ⟨fun j h3 h4 => by simp [kdF] at h4; omega, hM, by simp [kdF], by simp [kdF]⟩
  | f + 1, k, h1, h2 => by
    unfold kdF
    split
    · rename_i hm
      have hk : k < M := by
        rcases Nat.lt_or_eq_of_le h1 with h | h
        · exact h
        · subst h; rw [hM] at hm; cases hm
      obtain ⟨a, b', c, d⟩ := kdF_spec b n w M hM f (k + 1) hk (by omega)
      refine ⟨fun j h3 h4 => ?_, b', by omega, d⟩
      rcases Nat.lt_or_eq_of_le h3 with h | h
      · exact a j h h4
      · subst h; exact hm
    · rename_i hm
      exact ⟨fun j h3 h4 => by omega, by simpa using hm, Nat.le_refl _, h1⟩
theorem kd_spec (b n w M : Nat) (h0 : 0 < M) (hw : w ≤ M) (hM : M < 65) (hn : n < b ^ M) :
    (∀ j, j < kd b n w → more b n w j = true) ∧ more b n w (kd b n w) = false ∧ kd b n w ≤ M ∧ 0 < kd b n w := by
  have hm : more b n w M = false := by
    unfold more
    rw [Nat.div_eq_of_lt hn]
    simp; omega
  obtain ⟨a, b', c, d⟩ := kdF_spec b n w M hm 64 0 (by omega) (by omega)
  refine ⟨fun j hj => a j (by omega) hj, b', d, ?_⟩
  rcases Nat.eq_zero_or_pos (kd b n w) with h | h
  · unfold kd at h
    rw [h] at b'
    simp [more] at b'
  · exact h
theorem more_iff (b n w M : Nat) (h0 : 0 < M) (hw : w ≤ M) (hM : M < 65) (hn : n < b ^ M) (k : Nat) (hk : k ≤ kd b n w) : more b n w k = decide (k < kd b n w) := by
  obtain ⟨a, b', _, _⟩ := kd_spec b n w M h0 hw hM hn
  rcases Nat.lt_or_eq_of_le hk with h | h
  · rw [a k h]; simp [h]
  · rw [h, b']; simp
theorem div_pow_succ (n b k : Nat) : n / b ^ k / b = n / b ^ (k + 1) := by rw [Nat.div_div_eq_div_mul, Nat.pow_succ]

/-! ### The number of digits -/
def valN (c : Nat) : Nat := if 48 ≤ c ∧ c ≤ 57 then c - 48 else if 65 ≤ c ∧ c ≤ 70 then c - 55 else if 97 ≤ c ∧ c ≤ 102 then c - 87 else 99
def val (c : UInt8) : Nat := valN c.toNat
theorem valN_le (c : Nat) : valN c ≤ 99 := by unfold valN; split <;> (try split) <;> (try split) <;> omega
theorem valN_lt (c : Nat) : valN c < 16 ∨ valN c = 99 := by unfold valN; split <;> (try split) <;> (try split) <;> omega
/-- The number of a row of digits, whatever its size. -/
def numB (b : Nat) (l : List UInt8) : Nat := l.foldl (fun n c => b * n + val c) 0
theorem val_dig (d : Nat) (h : d < 16) : val (dig d) = d := by
  have : ∀ d : Fin 16, val (dig d.val) = d.val := by decide +kernel
  exact this ⟨d, h⟩
theorem dig_toNat (d : Nat) (h : d < 16) : (dig d).toNat = if d < 10 then 48 + d else 55 + d := by
  unfold dig
  split <;> (rw [UInt8.toNat_ofNat']; omega)
theorem numB_append (b : Nat) (l m : List UInt8) : numB b (l ++ m) = numB b l * b ^ m.length + numB b m := by
  suffices h : ∀ (m : List UInt8) (a : Nat), m.foldl (fun n c => b * n + val c) a = a * b ^ m.length + m.foldl (fun n c => b * n + val c) 0 by
    unfold numB; rw [List.foldl_append]; exact h m _
  intro m
  induction m with
  | nil => intro a; simp
  | cons c m ih =>
    intro a
    simp only [List.foldl_cons, List.length_cons]
    rw [ih (b * a + val c), ih (b * 0 + val c)]
    rw [Nat.pow_succ, Nat.add_mul, Nat.mul_zero, Nat.zero_add, Nat.add_assoc]
    congr 1
    rw [Nat.mul_comm b a, Nat.mul_assoc, Nat.mul_comm b]
theorem numB_cons (b : Nat) (c : UInt8) (m : List UInt8) : numB b (c :: m) = val c * b ^ m.length + numB b m := by
  have := numB_append b [c] m
  simpa [numB] using this
theorem numB_snoc (b : Nat) (m : List UInt8) (c : UInt8) : numB b (m ++ [c]) = b * numB b m + val c := by
  simp [numB, List.foldl_append]
theorem numB_ndig (b : Nat) (hb : 2 ≤ b) (hb' : b ≤ 16) (k n : Nat) : numB b (ndig b k n) = n % b ^ k := by
  induction k with
  | zero => simp [ndig, numB, Nat.mod_one]
  | succ k ih =>
    rw [ndig, numB_cons, ih, ndig_length, val_dig _ (by have := Nat.mod_lt (n / b ^ k) (by omega : b > 0); omega), Nat.pow_succ, Nat.mod_mul]
    rw [Nat.mul_comm, Nat.add_comm]
theorem numB_lt (b : Nat) (l : List UInt8) (h : ∀ c ∈ l, val c < b) : numB b l < b ^ l.length := by
  induction l with
  | nil => simp [numB]
  | cons c l ih =>
    rw [numB_cons]
    have h1 := ih (fun c hc => h c (List.mem_cons_of_mem _ hc))
    have h2 := h c List.mem_cons_self
    rw [List.length_cons, Nat.pow_succ]
    have h3 : (val c + 1) * b ^ l.length ≤ b * b ^ l.length := Nat.mul_le_mul_right _ h2
    rw [Nat.add_mul] at h3
    rw [Nat.mul_comm (b ^ l.length)]
    omega
theorem ndig_mem (b : Nat) (hb : 2 ≤ b) (hb' : b ≤ 16) (k n : Nat) : ∀ c ∈ ndig b k n, val c < b := by
  induction k with
  | zero => intro c h; cases h
  | succ k ih =>
    intro c h
    rcases List.mem_cons.1 h with rfl | h
    · rw [val_dig _ (by have := Nat.mod_lt (n / b ^ k) (by omega : b > 0); omega)]
      exact Nat.mod_lt _ (by omega)
    · exact ih c h
/-- The reading, as the document has it: a number and 0, or 0 and why not. -/
def foldO (b : Nat) : List UInt8 → Nat → Option Nat
  | [], n => some n
  | c :: l, n => if n > (18446744073709551615 - val c) / b then none else foldO b l (b * n + val c)
def readS (b most : Nat) (l : List UInt8) : Nat × Nat :=
  if l = [] ∨ ∃ c ∈ l, b ≤ val c then (0, 21) else if most < l.length then (0, 12) else match foldO b l 0 with | none => (0, 50) | some n => (n, 0)
theorem foldO_some (b : Nat) (hb : 0 < b) (l : List UInt8) (a : Nat) (h : a * b ^ l.length + numB b l < 18446744073709551616) : foldO b l a = some (a * b ^ l.length + numB b l) := by
  induction l generalizing a with
  | nil => simp [foldO, numB]
  | cons c l ih =>
    rw [foldO, numB_cons] at *
    rw [List.length_cons, Nat.pow_succ] at *
    have hp : 0 < b ^ l.length := Nat.pow_pos hb
    have e : a * (b ^ l.length * b) + (val c * b ^ l.length + numB b l) = (b * a + val c) * b ^ l.length + numB b l := by
      rw [Nat.add_mul, Nat.mul_comm b a, Nat.mul_assoc, Nat.mul_comm b (b ^ l.length)]; omega
    rw [e] at h ⊢
    have h1 : b * a + val c ≤ (b * a + val c) * b ^ l.length := Nat.le_mul_of_pos_right _ hp
    have h2 : ¬ a > (18446744073709551615 - val c) / b := by
      rw [Nat.not_lt, Nat.le_div_iff_mul_le hb, Nat.mul_comm]
      omega
    rw [if_neg h2]
    exact ih _ h
theorem readS_ndig (b most k n : Nat) (hb : 2 ≤ b) (hb' : b ≤ 16) (hk : 0 < k) (hm : k ≤ most) (hn : n < b ^ k) (hn2 : n < 18446744073709551616) : readS b most (ndig b k n) = (n, 0) := by
  have h1 : ¬ (ndig b k n = [] ∨ ∃ c ∈ ndig b k n, b ≤ val c) := by
    rintro (h | ⟨c, hc, h⟩)
    · have := ndig_length b k n
      rw [h] at this
      simp at this; omega
    · have := ndig_mem b hb hb' k n c hc
      omega
  have h2 : numB b (ndig b k n) = n := by rw [numB_ndig b hb hb', Nat.mod_eq_of_lt hn]
  unfold readS
  rw [if_neg h1, if_neg (by rw [ndig_length]; omega), foldO_some b (by omega) _ _ (by rw [h2]; simpa using hn2), h2]
  simp
theorem readS_bad (b most : Nat) (l : List UInt8) (c : UInt8) (h : c ∈ l) (hc : b ≤ val c) : readS b most l = (0, 21) := by
  unfold readS; rw [if_pos (.inr ⟨c, h, hc⟩)]
theorem readS_nil (b most : Nat) : readS b most [] = (0, 21) := by unfold readS; rw [if_pos (.inl rfl)]
theorem readS_good (b most : Nat) (l : List UInt8) (h0 : l ≠ []) (h : ∀ c ∈ l, val c < b) : readS b most l = if most < l.length then (0, 12) else match foldO b l 0 with | none => (0, 50) | some n => (n, 0) := by
  unfold readS
  rw [if_neg]
  rintro (h1 | ⟨c, hc, h1⟩)
  · exact h0 h1
  · have := h c hc; omega
theorem readS_num (b most : Nat) (hb : 0 < b) (l : List UInt8) (h0 : l ≠ []) (h : ∀ c ∈ l, val c < b) (hm : l.length ≤ most) (hp : b ^ most ≤ 18446744073709551616) : readS b most l = (numB b l, 0) ∧ numB b l < 18446744073709551616 := by
  have h1 := numB_lt b l h
  have h2 : b ^ l.length ≤ b ^ most := Nat.pow_le_pow_right hb hm
  rw [readS_good b most l h0 h, if_neg (by omega), foldO_some b hb l 0 (by omega)]
  exact ⟨by simp, by omega⟩
theorem foldO_snoc (b : Nat) (l : List UInt8) (c : UInt8) : ∀ n, foldO b (l ++ [c]) n = (foldO b l n).bind fun m => if m > (18446744073709551615 - val c) / b then none else some (b * m + val c) := by
  induction l with
  | nil => intro n; simp [foldO]
  | cons x l ih =>
    intro n
    rw [List.cons_append, foldO, foldO]
    split
    · rfl
    · exact ih _
theorem foldO_take (b : Nat) (l : List UInt8) (k : Nat) (c : UInt8) (h : l[k]? = some c) : foldO b (l.take (k + 1)) 0 = (foldO b (l.take k) 0).bind fun m => if m > (18446744073709551615 - val c) / b then none else some (b * m + val c) := by
  obtain ⟨hk, rfl⟩ := List.getElem?_eq_some_iff.1 h
  rw [List.take_succ_eq_append_getElem hk, foldO_snoc]
theorem foldO_lt (b : Nat) (hb : 0 < b) (l : List UInt8) (hl : ∀ c ∈ l, val c < 100) : ∀ n m, n < 18446744073709551616 → foldO b l n = some m → m < 18446744073709551616 := by
  induction l with
  | nil => intro n m h h2; simp [foldO] at h2; omega
  | cons c l ih =>
    intro n m h h2
    rw [foldO] at h2
    split at h2
    · cases h2
    · rename_i h3
      have h4 := hl c List.mem_cons_self
      refine ih (fun c hc => hl c (List.mem_cons_of_mem _ hc)) _ _ ?_ h2
      rw [Nat.not_lt, Nat.le_div_iff_mul_le hb, Nat.mul_comm] at h3
      omega
end Go.Proofs.Ytgebopmiefgdoaa

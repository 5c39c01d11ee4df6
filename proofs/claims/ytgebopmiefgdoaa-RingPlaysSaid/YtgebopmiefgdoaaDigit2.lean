/-
  Contracts of the reference's Digits and of both readings of a text as a number.
-/
import Derived.Test.YtgebopmiefgdoaaDigit
namespace Go.Proofs.Ytgebopmiefgdoaa
open Go.RowKit
theorem sign_str (d : Nat) (h : d < 16) : (ByteArray.mk #[48, 49, 50, 51, 52, 53, 54, 55, 56, 57, 65, 66, 67, 68, 69, 70]).extract d (d + 1) = ⟨[dig d].toArray⟩ := by
  have : ∀ d : Fin 16, (ByteArray.mk #[48, 49, 50, 51, 52, 53, 54, 55, 56, 57, 65, 66, 67, 68, 69, 70]).extract d.val (d.val + 1) = ⟨[dig d.val].toArray⟩ := by decide +kernel
  exact this ⟨d, h⟩
def strOf : Value → Nat | .string s => s.size | _ => 0
set_option maxRecDepth 100000 in
set_option maxHeartbeats 1000000 in
theorem Digits16_any (n : Nat) (wd : Int) (M : Nat) (w : World) (hn : n < 18446744073709551616) (hM : M < 65) (h0 : 0 < M) (hw : wd ≤ M) (hnM : n < 16 ^ M) (w0 : -9223372036854775808 ≤ wd) :
    Calls Try.prog 76 #[.int .u64 n, .int .u64 16, .int .i64 wd] w fun e w' => e = .returned (.string ⟨(ndig 16 (kd 16 n wd.toNat) n).toArray⟩) ∧ w = w' := by
  obtain ⟨k1, k2, k3, k4⟩ := kd_spec 16 n wd.toNat M h0 (by omega) hM hnM
  have hmore := more_iff 16 n wd.toNat M h0 (by omega) hM hnM
  generalize kd 16 n wd.toNat = K at *
  clear k1 k2 hnM
  go_enter Try.func76, Try.ntmps76
  go_wp2
  go_loop [0, 7] (fun a s => ∃ k : Nat, k ≤ K ∧ a = .int .u64 (n / 16 ^ k : Nat) ∧ s = .string ⟨(ndig 16 k n).toArray⟩) (fun _ s => K - strOf s)
  case atStart => exact ⟨0, by omega, by simp, by simp [ndig]⟩
  case round =>
    obtain ⟨k, hk, rfl, rfl⟩ := hrel
    have hm := hmore k hk
    have hln := ndig_length 16 k n
    have hq : n / 16 ^ k < 18446744073709551616 := Nat.lt_of_le_of_lt (Nat.div_le_self _ _) hn
    have hd := div_pow_succ n 16 k
    have hnd : ndig 16 (k + 1) n = dig (n / 16 ^ k % 16) :: ndig 16 k n := rfl
    simp only [more] at hm
    generalize hQ : n / 16 ^ k = q at *
    have HD := Lib.hid hd
    have HN := Lib.hid hnd
    generalize hL : ndig 16 k n = l at *
    have HL := Lib.hid hln
    have HLL := Lib.hid hL
    have hsg := sign_str (q % 16) (by omega)
    clear hd hnd hQ hL hmore
    by_cases hlt : k < K
    · rw [decide_eq_true hlt] at hm
      simp only [Bool.or_eq_true, decide_eq_true_eq] at hm
      have three : 0 < q ∨ q = 0 ∧ (k : Int) < wd ∨ q = 0 ∧ ¬ (k : Int) < wd ∧ l = [] := by
        rcases Nat.eq_zero_or_pos q with h | h
        · by_cases h2 : (k : Int) < wd
          · exact .inr (.inl ⟨h, h2⟩)
          · exact .inr (.inr ⟨h, h2, List.eq_nil_of_length_eq_zero (by omega)⟩)
        · exact .inl h
      have hl16 : l.length ≤ 64 := by omega
      have hlk : ((l.length : Nat) : Int) = k := by rw [hln]
      clear hm hln
      rcases three with h3 | ⟨h3, h4⟩ | ⟨h3, h4, h5⟩
      all_goals
        try subst h3
        try subst h5
        go_wp2
        all_goals
          refine ⟨⟨k + 1, by omega, by rw [← HD.out]; rfl, ?_⟩, ?_⟩
          · rw [HN.out]
            exact congrArg Value.string (ByteArray.mk_append_mk [dig _] _)
          · have := HL.out
            simp only [strOf, ByteArray.size_append, ByteArray.size_mk', List.size_toArray, List.length_nil] at *
            simp
            omega
    · rw [decide_eq_false hlt] at hm
      simp only [Bool.or_eq_false_iff, decide_eq_false_iff_not] at hm
      obtain ⟨m1, m2, m3⟩ := hm
      obtain rfl : q = 0 := by omega
      obtain rfl : k = K := by omega
      have he : l.isEmpty = false := by
        cases l with
        | nil => simp at hln; omega
        | cons a l => rfl
      have m4 : wd ≤ (k : Int) := by omega
      have hl16 : l.length ≤ 64 := by omega
      have hlk : ((l.length : Nat) : Int) = k := by rw [hln]
      clear hln m1 m2 m3
      go_wp2
      go_ret
      rw [HLL.out]
      exact ⟨rfl, rfl⟩
set_option maxRecDepth 100000 in
set_option maxHeartbeats 1000000 in
theorem Digits10_any (n : Nat) (wd : Int) (M : Nat) (w : World) (hn : n < 18446744073709551616) (hM : M < 65) (h0 : 0 < M) (hw : wd ≤ M) (hnM : n < 10 ^ M) (w0 : -9223372036854775808 ≤ wd) :
    Calls Try.prog 76 #[.int .u64 n, .int .u64 10, .int .i64 wd] w fun e w' => e = .returned (.string ⟨(ndig 10 (kd 10 n wd.toNat) n).toArray⟩) ∧ w = w' := by
  obtain ⟨k1, k2, k3, k4⟩ := kd_spec 10 n wd.toNat M h0 (by omega) hM hnM
  have hmore := more_iff 10 n wd.toNat M h0 (by omega) hM hnM
  generalize kd 10 n wd.toNat = K at *
  clear k1 k2 hnM
  go_enter Try.func76, Try.ntmps76
  go_wp2
  go_loop [0, 7] (fun a s => ∃ k : Nat, k ≤ K ∧ a = .int .u64 (n / 10 ^ k : Nat) ∧ s = .string ⟨(ndig 10 k n).toArray⟩) (fun _ s => K - strOf s)
  case atStart => exact ⟨0, by omega, by simp, by simp [ndig]⟩
  case round =>
    obtain ⟨k, hk, rfl, rfl⟩ := hrel
    have hm := hmore k hk
    have hln := ndig_length 10 k n
    have hq : n / 10 ^ k < 18446744073709551616 := Nat.lt_of_le_of_lt (Nat.div_le_self _ _) hn
    have hd := div_pow_succ n 10 k
    have hnd : ndig 10 (k + 1) n = dig (n / 10 ^ k % 10) :: ndig 10 k n := rfl
    simp only [more] at hm
    generalize hQ : n / 10 ^ k = q at *
    have HD := Lib.hid hd
    have HN := Lib.hid hnd
    generalize hL : ndig 10 k n = l at *
    have HL := Lib.hid hln
    have HLL := Lib.hid hL
    have hsg := sign_str (q % 10) (by omega)
    clear hd hnd hQ hL hmore
    by_cases hlt : k < K
    · rw [decide_eq_true hlt] at hm
      simp only [Bool.or_eq_true, decide_eq_true_eq] at hm
      have three : 0 < q ∨ q = 0 ∧ (k : Int) < wd ∨ q = 0 ∧ ¬ (k : Int) < wd ∧ l = [] := by
        rcases Nat.eq_zero_or_pos q with h | h
        · by_cases h2 : (k : Int) < wd
          · exact .inr (.inl ⟨h, h2⟩)
          · exact .inr (.inr ⟨h, h2, List.eq_nil_of_length_eq_zero (by omega)⟩)
        · exact .inl h
      have hl16 : l.length ≤ 64 := by omega
      have hlk : ((l.length : Nat) : Int) = k := by rw [hln]
      clear hm hln
      rcases three with h3 | ⟨h3, h4⟩ | ⟨h3, h4, h5⟩
      all_goals
        try subst h3
        try subst h5
        go_wp2
        all_goals
          refine ⟨⟨k + 1, by omega, by rw [← HD.out]; rfl, ?_⟩, ?_⟩
          · rw [HN.out]
            exact congrArg Value.string (ByteArray.mk_append_mk [dig _] _)
          · have := HL.out
            simp only [strOf, ByteArray.size_append, ByteArray.size_mk', List.size_toArray, List.length_nil] at *
            simp
            omega
    · rw [decide_eq_false hlt] at hm
      simp only [Bool.or_eq_false_iff, decide_eq_false_iff_not] at hm
      obtain ⟨m1, m2, m3⟩ := hm
      obtain rfl : q = 0 := by omega
      obtain rfl : k = K := by omega
      have he : l.isEmpty = false := by
        cases l with
        | nil => simp at hln; omega
        | cons a l => rfl
      have m4 : wd ≤ (k : Int) := by omega
      have hl16 : l.length ≤ 64 := by omega
      have hlk : ((l.length : Nat) : Int) = k := by rw [hln]
      clear hln m1 m2 m3
      go_wp2
      go_ret
      rw [HLL.out]
      exact ⟨rfl, rfl⟩
end Go.Proofs.Ytgebopmiefgdoaa

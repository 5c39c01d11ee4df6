/-
  The walk of the law DigitNums: for every number and width it returns true.
-/
import Derived.Test.YtgebopmiefgdoaaPairs
import Derived.Test.YtgebopmiefgdoaaDec
namespace Go.Proofs.Ytgebopmiefgdoaa
open Go.RowKit
/-- A width of at most one digit asks for no more than one. -/
theorem kd_width (b n a c : Nat) (h : max a 1 = max c 1) : kd b n a = kd b n c := by
  unfold kd
  have hm : ∀ k, more b n a k = more b n c k := fun k => by
    unfold more
    rw [Bool.eq_iff_iff]
    simp only [Bool.or_eq_true, decide_eq_true_eq]
    omega
  suffices h : ∀ f k, kdF b n a f k = kdF b n c f k from h _ _
  intro f
  induction f with
  | zero => intro k; rfl
  | succ f ih => intro k; unfold kdF; rw [hm k, ih]
set_option maxRecDepth 100000 in
set_option maxHeartbeats 2000000 in
theorem DigitNums_walk (w : World) (n : Int) (gn : IntKind.u64.min ≤ n ∧ n ≤ IntKind.u64.max) (wd : Int) (gw : IntKind.i64.min ≤ wd ∧ wd ≤ IntKind.i64.max) :
    Calls Try.prog 13 #[.int .u64 n, .int .i64 wd] w fun e w' => e = .returned (.bool true) ∧ Below w.heap.size w w' := by
  simp [IntKind.min, IntKind.max, IntKind.signed, IntKind.bits] at gn gw
  obtain ⟨n, rfl⟩ := Int.eq_ofNat_of_zero_le gn.1
  obtain ⟨w0, w1⟩ := gw
  have hn : n < 18446744073709551616 := by omega
  obtain ⟨_, q2, k3, k4⟩ := kd_spec 16 n (min wd 16).toNat 16 (by omega) (by omega) (by omega) hn
  obtain ⟨q3, d2, d3, d4⟩ := kd_spec 10 n 1 20 (by omega) (by omega) (by omega) (by omega)
  have hk2 : ∀ u : Int, 1 ≤ u → u ≤ 16 → max (u.toNat) 1 = max (min wd 16).toNat 1 → kd 16 n u.toNat = kd 16 n (min wd 16).toNat := fun u _ _ h => kd_width 16 n _ _ h
  have hnd : n < 16 ^ kd 16 n (min wd 16).toNat := by
    obtain ⟨_, k2, _, _⟩ := kd_spec 16 n (min wd 16).toNat 16 (by omega) (by omega) (by omega) hn
    rcases Nat.lt_or_ge n (16 ^ kd 16 n (min wd 16).toNat) with h | h
    · exact h
    · have := Nat.div_pos h (Nat.pow_pos (by omega))
      simp [more, this] at k2
  have hnd10 : n < 10 ^ kd 10 n 1 := by
    rcases Nat.lt_or_ge n (10 ^ kd 10 n 1) with h | h
    · exact h
    · have := Nat.div_pos h (Nat.pow_pos (by omega))
      simp [more, this] at d2
  have R1 := Lib.hid (readS_ndig 16 16 _ n (by omega) (by omega) k4 k3 hnd hn)
  have R2 := Lib.hid (readS_ndig 10 20 _ n (by omega) (by omega) d4 d3 hnd10 hn)
  have L1 := ndig_length 16 (kd 16 n (min wd 16).toNat) n
  have L2 := ndig_length 10 (kd 10 n 1) n
  have HK := Lib.hid hk2
  have HX0 : Hid (∀ W : World, Calls Try.prog 74 #[.int .u64 n, .int .i64 wd] W fun e w' => e = .returned (.string ⟨(ndig 16 (kd 16 n (min wd 16).toNat) n).toArray⟩) ∧ Below W.heap.size W w') := fun W => Hex_any n wd W hn w0 w1
  have DX : Hid (∀ W : World, Calls Try.prog 75 #[.int .u64 n] W fun e w' => e = .returned (.string ⟨(ndig 10 (kd 10 n 1) n).toArray⟩) ∧ Below W.heap.size W w') := fun W => Dec_any n W hn
  clear hk2 hnd hnd10 d2 q2 q3
  have D16 : Hid (∀ (u : Int) (W : World), 1 ≤ u → u ≤ 16 → max (u.toNat) 1 = max (min wd 16).toNat 1 → Calls Try.prog 76 #[.int .u64 n, .int .u64 16, .int .i64 u] W fun e w' => e = .returned (.string ⟨(ndig 16 (kd 16 n (min wd 16).toNat) n).toArray⟩) ∧ W = w') := fun u W h1 h2 h3 => by
    have h := Digits16_any n u 16 W hn (by omega) (by omega) (by omega) (by omega) (by omega)
    rw [HK.out u h1 h2 h3] at h
    exact h
  have D10 : Hid (∀ (W : World), Calls Try.prog 76 #[.int .u64 n, .int .u64 10, .int .i64 1] W fun e w' => e = .returned (.string ⟨(ndig 10 (kd 10 n 1) n).toArray⟩) ∧ W = w') := fun W => Digits10_any n 1 20 W hn (by omega) (by omega) (by omega) (by omega) (by omega)
  clear HK
  generalize ndig 16 (kd 16 n (min wd 16).toNat) n = h at *
  generalize ndig 10 (kd 10 n 1) n = d at *
  have l1 : h.length ≤ 16 := by omega
  have l2 : d.length ≤ 20 := by omega
  have HX : Hid (∀ W : World, Calls Try.prog 74 #[.int .u64 n, .int .i64 wd] W fun e w' => e = .returned (.string ⟨h.toArray⟩) ∧ Below W.heap.size W w') := HX0
  clear L1 L2 k3 k4 d3 d4
  have three : wd < 1 ∨ (1 ≤ wd ∧ wd ≤ 16) ∨ 16 < wd := by omega
  rcases three with h3 | ⟨h3, h4⟩ | h3
  all_goals
    go_enter Try.func13, Try.ntmps13
    go_wp2_with (first | (go_at_call 74; refine (HX.out _).mono ?_; rintro e w1 ⟨rfl, hb1⟩) | (go_at_call 75; refine (DX.out _).mono ?_; rintro e w2 ⟨rfl, hb2⟩) | (go_at_call 57; refine (Read_any h _ (by omega)).mono ?_; rintro e w3 ⟨rfl, rfl⟩; rw [R1.out]) | (go_at_call 59; refine (ReadDec_any d _ (by omega)).mono ?_; rintro e w3 ⟨rfl, rfl⟩; rw [R2.out]) | (go_at_call 76; (first | (with_reducible refine (D10.out _).mono ?_) | (with_reducible refine (D16.out _ _ (by omega) (by omega) (by omega)).mono ?_)); rintro e w3 ⟨rfl, rfl⟩) | (go_at_call 37; refine (alive02 _).mono ?_; rintro e w4 ⟨rfl, hb4⟩))
    go_ret
    exact ⟨rfl, below_then (below_then hb1 hb2) hb4⟩
end Go.Proofs.Ytgebopmiefgdoaa

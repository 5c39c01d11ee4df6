/-
  Contracts of the conf package, and of the law's own text of a shape.
-/
import Derived.Test.YtgebopmiefgdoaaPairs
import Derived.OrdersHeld
namespace Go.Proofs.Ytgebopmiefgdoaa
open Go.RowKit
def confRight (k r : Int) : Prop := (k = 0 ∨ k = 1) ∧ 0 ≤ r ∧ r ≤ 65536
instance (k r : Int) : Decidable (confRight k r) := by unfold confRight; infer_instance
def confKind (k : Int) : List UInt8 := if k = 1 then [68, 77, 65] else [84, 83, 67]
/-- A shape's text. -/
def confL (k r : Int) : List UInt8 := if r < 65536 then confKind k ++ ([32, 82, 79, 77, 32] ++ ndig 16 (kd 16 r.toNat 4) r.toNat) else confKind k
def confErr (k r : Int) : Int := if k = 0 ∨ k = 1 then (if 0 ≤ r ∧ r ≤ 65536 then 0 else 11) else 10
theorem kd4 (n : Nat) (h : n < 65536) : kd 16 n 4 = 4 := by
  obtain ⟨a, _, c, _⟩ := kd_spec 16 n 4 4 (by omega) (by omega) (by omega) (by simpa using h)
  rcases Nat.lt_or_ge (kd 16 n 4) 4 with h1 | h1
  · have h2 := (kd_spec 16 n 4 4 (by omega) (by omega) (by omega) (by simpa using h)).2.1
    simp [more] at h2
    omega
  · omega
theorem confKind_len (k : Int) : (confKind k).length = 3 := by unfold confKind; split <;> rfl
theorem confL_len (k r : Int) (h0 : 0 ≤ r) (h : r < 65536) : (confL k r).length = 12 := by
  unfold confL
  rw [if_pos h, kd4 _ (by omega)]
  simp [confKind_len, ndig_length]
set_option maxHeartbeats 2000000 in
theorem Right_any (k r : Int) (w : World) (k0 : -9223372036854775808 ≤ k) (k1 : k ≤ 9223372036854775807) (r0 : -9223372036854775808 ≤ r) (r1 : r ≤ 9223372036854775807) :
    Calls Try.prog 77 #[.agg #[.int .i64 k, .int .i64 r]] w fun e w' => e = .returned (.bool (decide (confRight k r))) ∧ Below w.heap.size w w' := by
  have three : k = 0 ∨ k = 1 ∨ (k ≠ 0 ∧ k ≠ 1) := by omega
  have threeR : r < 0 ∨ (0 ≤ r ∧ r ≤ 65536) ∨ 65536 < r := by omega
  rcases three with rfl | rfl | ⟨h1, h2⟩
  · rcases threeR with h | ⟨h, h'⟩ | h
    · have HD : Hid (decide (confRight 0 r) = false) := decide_eq_false (by unfold confRight; omega)
      go_enter Try.func77, Try.ntmps77
      go_wp2
      go_ret
      rw [HD.out]
      exact ⟨rfl, below_alloc (Below.refl _ _) _⟩
    · have HD : Hid (decide (confRight 0 r) = true) := decide_eq_true (by unfold confRight; omega)
      go_enter Try.func77, Try.ntmps77
      go_wp2
      go_ret
      rw [HD.out]
      exact ⟨by first | rfl | (simp; done) | (simp; omega), below_alloc (Below.refl _ _) _⟩
    · have HD : Hid (decide (confRight 0 r) = false) := decide_eq_false (by unfold confRight; omega)
      go_enter Try.func77, Try.ntmps77
      go_wp2
      go_ret
      rw [HD.out]
      exact ⟨by first | rfl | (simp; done) | (simp; omega), below_alloc (Below.refl _ _) _⟩
  · rcases threeR with h | ⟨h, h'⟩ | h
    · have HD : Hid (decide (confRight 1 r) = false) := decide_eq_false (by unfold confRight; omega)
      go_enter Try.func77, Try.ntmps77
      go_wp2
      go_ret
      rw [HD.out]
      exact ⟨rfl, below_alloc (Below.refl _ _) _⟩
    · have HD : Hid (decide (confRight 1 r) = true) := decide_eq_true (by unfold confRight; omega)
      go_enter Try.func77, Try.ntmps77
      go_wp2
      go_ret
      rw [HD.out]
      exact ⟨by first | rfl | (simp; done) | (simp; omega), below_alloc (Below.refl _ _) _⟩
    · have HD : Hid (decide (confRight 1 r) = false) := decide_eq_false (by unfold confRight; omega)
      go_enter Try.func77, Try.ntmps77
      go_wp2
      go_ret
      rw [HD.out]
      exact ⟨by first | rfl | (simp; done) | (simp; omega), below_alloc (Below.refl _ _) _⟩
  · have b1 : (k == 0) = false := beq_eq_false_iff_ne.2 h1
    have b2 : (k == 1) = false := beq_eq_false_iff_ne.2 h2
    have HD : Hid (decide (confRight k r) = false) := decide_eq_false (by unfold confRight; omega)
    clear h1 h2 threeR
    go_enter Try.func77, Try.ntmps77
    go_wp2
    go_ret
    rw [HD.out]
    exact ⟨rfl, below_alloc (Below.refl _ _) _⟩
set_option maxHeartbeats 2000000 in
theorem Check_any (k r : Int) (w : World) (k0 : -9223372036854775808 ≤ k) (k1 : k ≤ 9223372036854775807) (r0 : -9223372036854775808 ≤ r) (r1 : r ≤ 9223372036854775807) :
    Calls Try.prog 78 #[.agg #[.int .i64 k, .int .i64 r]] w fun e w' => e = .returned (.int .i64 (confErr k r)) ∧ Below w.heap.size w w' := by
  by_cases hk : k = 0 ∨ k = 1
  · have hR : Hid (∀ W : World, Calls Try.prog 77 #[.agg #[.int .i64 k, .int .i64 r]] W fun e w' => e = .returned (.bool (decide (0 ≤ r ∧ r ≤ 65536))) ∧ Below W.heap.size W w') := fun W => by
      have h := Right_any k r W k0 k1 r0 r1
      rw [show decide (confRight k r) = decide (0 ≤ r ∧ r ≤ 65536) from by unfold confRight; simp [hk]] at h
      exact h
    have HE : Hid (confErr k r = if 0 ≤ r ∧ r ≤ 65536 then 0 else 11) := by unfold Hid confErr; rw [if_pos hk]
    by_cases hr : 0 ≤ r ∧ r ≤ 65536
    · rcases hk with rfl | rfl
      all_goals
        go_enter Try.func78, Try.ntmps78
        go_wp2_with (go_at_call 77; refine (hR.out _).mono ?_; rintro e w1 ⟨rfl, hb⟩; rw [decide_eq_true hr])
        go_ret
        rw [HE.out, if_pos hr]
        exact ⟨rfl, below_then (below_alloc (Below.refl _ _) _) hb⟩
    · rcases hk with rfl | rfl
      all_goals
        go_enter Try.func78, Try.ntmps78
        go_wp2_with (go_at_call 77; refine (hR.out _).mono ?_; rintro e w1 ⟨rfl, hb⟩; rw [decide_eq_false hr])
        go_ret
        rw [HE.out, if_neg hr]
        exact ⟨rfl, below_then (below_alloc (Below.refl _ _) _) hb⟩
  · have b1 : (k != 0) = true := by rw [bne_iff_ne]; omega
    have b2 : (k != 1) = true := by rw [bne_iff_ne]; omega
    have HE : Hid (confErr k r = 10) := by unfold Hid confErr; rw [if_neg hk]
    clear hk
    go_enter Try.func78, Try.ntmps78
    go_wp2
    go_ret
    rw [HE.out]
    exact ⟨rfl, below_alloc (Below.refl _ _) _⟩
theorem names_cut0 : (ByteArray.mk #[84, 83, 67, 68, 77, 65]).extract 0 3 = ⟨[84, 83, 67].toArray⟩ := by decide +kernel
theorem names_cut1 : (ByteArray.mk #[84, 83, 67, 68, 77, 65]).extract 3 6 = ⟨[68, 77, 65].toArray⟩ := by decide +kernel
theorem mk_app (a b : List UInt8) : (ByteArray.mk a.toArray) ++ (ByteArray.mk b.toArray) = ⟨(a ++ b).toArray⟩ := ByteArray.mk_append_mk a b
set_option maxRecDepth 100000 in
set_option maxHeartbeats 2000000 in
theorem Text_any (k r : Int) (w : World) (k0 : -9223372036854775808 ≤ k) (k1 : k ≤ 9223372036854775807) (r0 : -9223372036854775808 ≤ r) (r1 : r ≤ 9223372036854775807) :
    Calls Try.prog 79 #[.agg #[.int .i64 k, .int .i64 r]] w fun e w' => e = .returned (.string ⟨(if confRight k r then confL k r else []).toArray⟩) ∧ Below w.heap.size w w' := by
  by_cases hR : confRight k r
  · rw [if_pos hR]
    have hRR := hR
    obtain ⟨hk, h1, h2⟩ := hRR
    have HC : Hid (∀ W : World, Calls Try.prog 77 #[.agg #[.int .i64 k, .int .i64 r]] W fun e w' => e = .returned (.bool true) ∧ Below W.heap.size W w') := fun W => by
      have h := Right_any k r W k0 k1 r0 r1
      rw [decide_eq_true hR] at h
      exact h
    have c0 := names_cut0
    have c1 := names_cut1
    clear hR
    by_cases hr : r < 65536
    · obtain ⟨n, rfl⟩ := Int.eq_ofNat_of_zero_le h1
      have HX : Hid (∀ W : World, Calls Try.prog 74 #[.int .u64 n, .int .i64 4] W fun e w' => e = .returned (.string ⟨(ndig 16 (kd 16 n 4) n).toArray⟩) ∧ Below W.heap.size W w') := fun W => Hex_any n 4 W (by omega) (by omega) (by omega)
      have hdl := ndig_length 16 (kd 16 n 4) n
      rw [kd4 n (by omega)] at hdl
      have hcl : ∀ k, confL k n = confKind k ++ ([32, 82, 79, 77, 32] ++ ndig 16 (kd 16 n 4) n) := fun k => by unfold confL; rw [if_pos hr]; rfl
      have HCL := Lib.hid hcl
      clear hcl
      rw [kd4 n (by omega)] at HX HCL
      have a1 := mk_app [32, 82, 79, 77, 32] (ndig 16 4 n)
      have a2 := mk_app [84, 83, 67] ([32, 82, 79, 77, 32] ++ ndig 16 4 n)
      have a3 := mk_app [68, 77, 65] ([32, 82, 79, 77, 32] ++ ndig 16 4 n)
      generalize ndig 16 4 n = d at *
      have hd : d.length ≤ 4 := by omega
      clear hdl
      rcases hk with rfl | rfl
      all_goals
        go_enter Try.func79, Try.ntmps79
        go_wp2_with (first | (go_at_call 77; refine (HC.out _).mono ?_; rintro e w1 ⟨rfl, hb⟩; have hz := hb.size; obtain ⟨q1, q2⟩ := (show _ ∧ _ from ⟨(hb.cell (p := ⟨w.heap.size, 0, none⟩) (by simp)), (hb.cell (p := ⟨w.heap.size, 1, none⟩) (by simp))⟩)) | (go_at_call 74; refine (HX.out _).mono ?_; rintro e w2 ⟨rfl, hb2⟩))
        go_ret
        refine ⟨?_, below_then (below_then (below_alloc (Below.refl _ _) _) hb) hb2⟩
        rw [HCL.out]
        first
          | exact congrArg (fun s => Ending.returned (.string s)) a2
          | exact congrArg (fun s => Ending.returned (.string s)) a3
    · obtain rfl : r = 65536 := by omega
      have HCL : Hid (∀ k, confL k 65536 = confKind k) := fun k => by unfold confL; rw [if_neg (by omega)]
      clear hr
      rcases hk with rfl | rfl
      all_goals
        go_enter Try.func79, Try.ntmps79
        go_wp2_with (first | (go_at_call 77; refine (HC.out _).mono ?_; rintro e w1 ⟨rfl, hb⟩; have hz := hb.size; obtain ⟨q1, q2⟩ := (show _ ∧ _ from ⟨(hb.cell (p := ⟨w.heap.size, 0, none⟩) (by simp)), (hb.cell (p := ⟨w.heap.size, 1, none⟩) (by simp))⟩)))
        go_ret
        refine ⟨?_, below_then (below_alloc (Below.refl _ _) _) hb⟩
        rw [HCL.out]
        rfl
  · rw [if_neg hR]
    have HC : Hid (∀ W : World, Calls Try.prog 77 #[.agg #[.int .i64 k, .int .i64 r]] W fun e w' => e = .returned (.bool false) ∧ Below W.heap.size W w') := fun W => by
      have h := Right_any k r W k0 k1 r0 r1
      rw [decide_eq_false hR] at h
      exact h
    clear hR
    go_enter Try.func79, Try.ntmps79
    go_wp2_with (first | (go_at_call 77; refine (HC.out _).mono ?_; rintro e w1 ⟨rfl, hb⟩))
    go_ret
    exact ⟨rfl, below_then (below_alloc (Below.refl _ _) _) hb⟩
end Go.Proofs.Ytgebopmiefgdoaa

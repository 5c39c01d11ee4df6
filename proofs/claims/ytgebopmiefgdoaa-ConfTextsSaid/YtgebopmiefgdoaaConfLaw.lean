/-
  The law's own text of a shape, its example, and the plain facts of shapes' texts.
-/
import Derived.Test.YtgebopmiefgdoaaConfRead
namespace Go.Proofs.Ytgebopmiefgdoaa
open Go.RowKit
theorem confRead_cases (l : List UInt8) : (∃ k r : Int, confRead l = (k, r, 0) ∧ confRight k r ∧ confL k r = l) ∨ (confRead l = (0, 0, 21) ∧ l ≠ [84, 83, 67] ∧ l ≠ [68, 77, 65]) := by
  have hK : readKind l = 0 ∨ readKind l = 1 := by unfold readKind; split <;> simp
  by_cases h3 : l.length < 3
  · refine .inr ⟨by unfold confRead; rw [if_pos h3], ?_, ?_⟩
    · rintro rfl; simp at h3
    · rintro rfl; simp at h3
  by_cases he : (readRom l).2 ≠ 0
  · refine .inr ⟨by unfold confRead; rw [if_neg h3, if_pos he], ?_, ?_⟩
    · rintro rfl; exact he (by decide +kernel)
    · rintro rfl; exact he (by decide +kernel)
  by_cases ht : textL (readKind l) (readRom l).1 = l
  · by_cases hr : confRight (readKind l) (readRom l).1
    · refine .inl ⟨readKind l, (readRom l).1, by unfold confRead; rw [if_neg h3, if_neg he, if_pos ht], hr, ?_⟩
      unfold textL at ht
      rw [if_pos hr] at ht
      exact ht
    · unfold textL at ht
      rw [if_neg hr] at ht
      rw [← ht] at h3
      simp at h3
  · refine .inr ⟨by unfold confRead; rw [if_neg h3, if_neg he, if_neg ht], ?_, ?_⟩
    · rintro rfl; exact ht (by decide +kernel)
    · rintro rfl; exact ht (by decide +kernel)
theorem confRead_confL (k r : Int) (h : confRight k r) : confRead (confL k r) = (k, r, 0) := by
  obtain ⟨hk, h0, h1⟩ := h
  have hkl := confKind_len k
  have hkind : readKind (confL k r) = k := by
    unfold readKind
    have : (confL k r).take 3 = confKind k := by
      unfold confL
      split
      · rw [List.take_append_of_le_length (by omega), List.take_of_length_le (by omega)]
      · rw [List.take_of_length_le (by omega)]
    rw [this]
    rcases hk with rfl | rfl <;> rfl
  by_cases hr : r < 65536
  · obtain ⟨n, rfl⟩ := Int.eq_ofNat_of_zero_le h0
    have hlen := confL_len k n h0 hr
    have hrom : readRom (confL k n) = (n, 0) := by
      unfold readRom
      rw [if_pos hlen]
      have : (confL k n).drop 8 = ndig 16 4 n := by
        unfold confL
        rw [if_pos hr]
        rw [show ((n : Int).toNat) = n from rfl, kd4 n (by omega), ← List.append_assoc, List.drop_left' (by simp [hkl])]
      rw [this]
      exact readS_ndig 16 16 4 n (by omega) (by omega) (by omega) (by omega) (by omega) (by omega)
    have hR : confRight k n := ⟨hk, h0, h1⟩
    unfold confRead
    rw [if_neg (by omega), hrom, if_neg (by simp), hkind, if_pos (by unfold textL; exact if_pos hR)]
  · obtain rfl : r = 65536 := by omega
    have hlen : (confL k 65536).length = 3 := by unfold confL; rw [if_neg (by omega)]; exact hkl
    have hrom : readRom (confL k 65536) = (65536, 0) := by unfold readRom; rw [if_neg (by omega)]
    have hR : confRight k 65536 := ⟨hk, h0, h1⟩
    unfold confRead
    rw [if_neg (by omega), hrom, if_neg (by simp), hkind]
    exact if_pos (by unfold textL; exact if_pos hR)
theorem confL_len40 (k r : Int) (h : confRight k r) : (confL k r).length ≤ 12 := by
  obtain ⟨hk, h0, h1⟩ := h
  by_cases hr : r < 65536
  · rw [confL_len k r h0 hr]; omega
  · unfold confL; rw [if_neg hr, confKind_len]; omega
set_option maxRecDepth 100000 in
set_option maxHeartbeats 2000000 in
theorem Text33_any (k r : Int) (w : World) (hR : confRight k r) :
    Calls Try.prog 73 #[.agg #[.int .i64 k, .int .i64 r]] w fun e w' => e = .returned (.string ⟨(confL k r).toArray⟩) ∧ Below w.heap.size w w' := by
  obtain ⟨hk, h1, h2⟩ := hR
  by_cases hr : r < 65536
  · obtain ⟨n, rfl⟩ := Int.eq_ofNat_of_zero_le h1
    have HX : Hid (∀ W : World, Calls Try.prog 76 #[.int .u64 n, .int .u64 16, .int .i64 4] W fun e w' => e = .returned (.string ⟨(ndig 16 (kd 16 n 4) n).toArray⟩) ∧ W = w') := fun W => Digits16_any n 4 16 W (by omega) (by omega) (by omega) (by omega) (by omega) (by omega)
    have hdl := ndig_length 16 (kd 16 n 4) n
    rw [kd4 n (by omega)] at hdl
    have hcl : ∀ k, confL k n = confKind k ++ ([32, 82, 79, 77, 32] ++ ndig 16 (kd 16 n 4) n) := fun k => by unfold confL; rw [if_pos hr]; rfl
    have HCL := Lib.hid hcl
    clear hcl
    rw [kd4 n (by omega)] at HX HCL
    have a1 := mk_app [32, 82, 79, 77, 32] (ndig 16 4 n)
    have a2 := mk_app [84, 83, 67] ([32, 82, 79, 77, 32] ++ ndig 16 4 n)
    have a3 := mk_app [68, 77, 65] ([32, 82, 79, 77, 32] ++ ndig 16 4 n)
    generalize ndig 16 4 n = d at *
    have hd : d.length ≤ 4 := by omega
    clear hdl
    rcases hk with rfl | rfl
    all_goals
      go_enter Try.func73, Try.ntmps73
      go_wp2_with (first | (go_at_call 76; refine (HX.out _).mono ?_; rintro e w2 ⟨rfl, rfl⟩))
      go_ret
      refine ⟨?_, below_alloc (Below.refl _ _) _⟩
      rw [HCL.out]
      first
        | exact congrArg (fun s => Ending.returned (.string s)) a2
        | exact congrArg (fun s => Ending.returned (.string s)) a3
  · obtain rfl : r = 65536 := by omega
    have HCL : Hid (∀ k, confL k 65536 = confKind k) := fun k => by unfold confL; rw [if_neg (by omega)]
    clear hr
    rcases hk with rfl | rfl
    all_goals
      go_enter Try.func73, Try.ntmps73
      go_wp2
      go_ret
      refine ⟨?_, below_alloc (Below.refl _ _) _⟩
      rw [HCL.out]
      rfl
theorem alive33 (w : World) :
    Calls Try.prog 72 #[] w fun e w' => e = .returned (.bool true) ∧ Below w.heap.size w w' := by
  have HE : Hid ((if confRight 1 61440 then confL 1 61440 else []) = [68, 77, 65, 32, 82, 79, 77, 32, 70, 48, 48, 48]) := by unfold Hid; decide +kernel
  go_enter Try.func72, Try.ntmps72
  go_wp2_with (go_at_call 79; refine (Text_any 1 61440 _ (by omega) (by omega) (by omega) (by omega)).mono ?_; rintro e w1 ⟨rfl, hb⟩; rw [HE.out])
  go_ret
  exact ⟨rfl, hb⟩
end Go.Proofs.Ytgebopmiefgdoaa

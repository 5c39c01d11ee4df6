/-
  The walk of the law ConfTexts: for every shape it returns true.
-/
import Derived.Test.YtgebopmiefgdoaaConfLaw
import Derived.Test.YtgebopmiefgdoaaDec
namespace Go.Proofs.Ytgebopmiefgdoaa
open Go.RowKit
set_option maxRecDepth 100000 in
set_option maxHeartbeats 4000000 in
theorem ConfTexts_walk (w : World) (y : Config) (g : y.Good) :
    Calls Try.prog 14 #[.agg y.cells.toArray] w fun e w' => e = .returned (.bool true) ∧ Below w.heap.size w w' := by
  obtain ⟨k, r⟩ := y
  obtain ⟨⟨k0, k1⟩, ⟨r0, r1⟩⟩ := g
  have k0 : -9223372036854775808 ≤ k := k0
  have k1 : k ≤ 9223372036854775807 := k1
  have r0 : -9223372036854775808 ≤ r := r0
  have r1 : r ≤ 9223372036854775807 := r1
  unfold Config.cells
  dsimp only
  have HR : Hid (∀ W : World, Calls Try.prog 77 #[.agg #[.int .i64 k, .int .i64 r]] W fun e w' => e = .returned (.bool (decide (confRight k r))) ∧ Below W.heap.size W w') := fun W => Right_any k r W (by omega) (by omega) (by omega) (by omega)
  have HK : Hid (∀ W : World, Calls Try.prog 78 #[.agg #[.int .i64 k, .int .i64 r]] W fun e w' => e = .returned (.int .i64 (confErr k r)) ∧ Below W.heap.size W w') := fun W => Check_any k r W (by omega) (by omega) (by omega) (by omega)
  have HT : Hid (∀ W : World, Calls Try.prog 79 #[.agg #[.int .i64 k, .int .i64 r]] W fun e w' => e = .returned (.string ⟨(if confRight k r then confL k r else []).toArray⟩) ∧ Below W.heap.size W w') := fun W => Text_any k r W (by omega) (by omega) (by omega) (by omega)
  have three : (decide (0 ≤ r) = false ∧ ¬ (0 ≤ r ∧ r ≤ 65536)) ∨ (decide (0 ≤ r) = true ∧ decide (r ≤ 65536) = false ∧ ¬ (0 ≤ r ∧ r ≤ 65536)) ∨ (decide (0 ≤ r) = true ∧ decide (r ≤ 65536) = true ∧ 0 ≤ r ∧ r ≤ 65536) := by
    by_cases h : 0 ≤ r
    · by_cases h' : r ≤ 65536
      · exact .inr (.inr ⟨decide_eq_true h, decide_eq_true h', h, h'⟩)
      · exact .inr (.inl ⟨decide_eq_true h, decide_eq_false h', by omega⟩)
    · exact .inl ⟨decide_eq_false h, by omega⟩
  by_cases hR : confRight k r
  · rw [decide_eq_true hR] at HR
    rw [if_pos hR] at HT
    have HE : confErr k r = 0 := by unfold confErr; rw [if_pos hR.1, if_pos hR.2]
    rw [HE] at HK
    have HC : Hid (∀ W : World, Calls Try.prog 71 #[.string ⟨(confL k r).toArray⟩] W fun e w' => e = .returned (.tuple #[.agg #[.int .i64 k, .int .i64 r], .int .i64 0]) ∧ Below W.heap.size W w') := fun W => by
      have h := ConfRead_any (confL k r) W (by have := confL_len40 k r hR; omega)
      rw [confRead_confL k r hR] at h
      exact h
    have H3 : Hid (∀ W : World, Calls Try.prog 73 #[.agg #[.int .i64 k, .int .i64 r]] W fun e w' => e = .returned (.string ⟨(confL k r).toArray⟩) ∧ Below W.heap.size W w') := fun W => Text33_any k r W hR
    have hlen := confL_len40 k r hR
    obtain ⟨hk, h0, h1⟩ := hR
    have d0 : decide (0 ≤ r) = true := decide_eq_true h0
    have d1 : decide (r ≤ 65536) = true := decide_eq_true h1
    generalize confL k r = T at *
    clear HE three h0 h1
    rcases hk with rfl | rfl
    all_goals
      go_enter Try.func14, Try.ntmps14
      go_wp2_with fail
      go_quiet (fail)
      go_wp2_with (first | (go_at_call 77; refine (HR.out _).mono ?_; rintro e w1 ⟨rfl, hb1⟩; have hz1 : w.heap.size < w1.heap.size := Nat.lt_of_lt_of_le (by first | omega | (simp; done) | (simp; omega)) hb1.size; obtain ⟨hcc, hff⟩ := bcell hb1; have q1_0 := fun o => hcc (w.heap.size) o (by first | omega | (simp; done) | (simp; omega) | (simp [World.drewN]; done) | (simp [World.drewN]; omega)); clear hcc hff) | (go_at_call 78; refine (HK.out _).mono ?_; rintro e w2 ⟨rfl, hb2⟩; have hz2 : w.heap.size < w2.heap.size := Nat.lt_of_lt_of_le (by first | omega | (simp; done) | (simp; omega)) hb2.size; obtain ⟨hcc, hff⟩ := bcell hb2; have q2_0 := fun o => hcc (w.heap.size) o (by first | omega | (simp; done) | (simp; omega) | (simp [World.drewN]; done) | (simp [World.drewN]; omega)); clear hcc hff) | (go_at_call 79; refine (HT.out _).mono ?_; rintro e w3 ⟨rfl, hb3⟩; have hz3 : w.heap.size < w3.heap.size := Nat.lt_of_lt_of_le (by first | omega | (simp; done) | (simp; omega)) hb3.size; obtain ⟨hcc, hff⟩ := bcell hb3; have q3_0 := fun o => hcc (w.heap.size) o (by first | omega | (simp; done) | (simp; omega) | (simp [World.drewN]; done) | (simp [World.drewN]; omega)); clear hcc hff) | (go_at_call 71; refine (HC.out _).mono ?_; rintro e w4 ⟨rfl, hb4⟩; have hz4 : w.heap.size < w4.heap.size := Nat.lt_of_lt_of_le (by first | omega | (simp; done) | (simp; omega)) hb4.size; obtain ⟨hcc, hff⟩ := bcell hb4; have q4_0 := fun o => hcc (w.heap.size) o (by first | omega | (simp; done) | (simp; omega) | (simp [World.drewN]; done) | (simp [World.drewN]; omega)); clear hcc hff) | (go_at_call 73; refine (H3.out _).mono ?_; rintro e w5 ⟨rfl, hb5⟩; have hz5 : w.heap.size < w5.heap.size := Nat.lt_of_lt_of_le (by first | omega | (simp; done) | (simp; omega)) hb5.size; obtain ⟨hcc, hff⟩ := bcell hb5; have q5_0 := fun o => hcc (w.heap.size) o (by first | omega | (simp; done) | (simp; omega) | (simp [World.drewN]; done) | (simp [World.drewN]; omega)); have q5_1 := fun o => hcc (w4.heap.size) o (by first | omega | (simp; done) | (simp; omega) | (simp [World.drewN]; done) | (simp [World.drewN]; omega)); clear hcc hff) | (go_at_call 72; refine (alive33 _).mono ?_; rintro e w6 ⟨rfl, hb6⟩; have hz6 : w.heap.size < w6.heap.size := Nat.lt_of_lt_of_le (by first | omega | (simp; done) | (simp; omega)) hb6.size; obtain ⟨hcc, hff⟩ := bcell hb6; have q6_0 := fun o => hcc (w.heap.size) o (by first | omega | (simp; done) | (simp; omega) | (simp [World.drewN]; done) | (simp [World.drewN]; omega)); clear hcc hff))
      go_ret
      exact ⟨rfl, by repeat (first | exact Below.refl _ _ | apply below_alloc | apply below_drewN | assumption | (refine below_then ?_ (by assumption)))⟩
  · rw [decide_eq_false hR] at HR
    rw [if_neg hR] at HT
    by_cases hk : k = 0 ∨ k = 1
    · have HE : confErr k r = 11 := by unfold confErr; rw [if_pos hk, if_neg (fun h => hR ⟨hk, h⟩)]
      rw [HE] at HK
      rcases three with ⟨hr, hn⟩ | ⟨hr, hr2, hn⟩ | ⟨_, _, hn⟩
      · clear HE hR hn
        rcases hk with rfl | rfl
        all_goals
          go_enter Try.func14, Try.ntmps14
          go_wp2_with fail
          go_quiet (fail)
          go_wp2_with (first | (go_at_call 77; refine (HR.out _).mono ?_; rintro e w1 ⟨rfl, hb1⟩; have hz1 : w.heap.size < w1.heap.size := Nat.lt_of_lt_of_le (by first | omega | (simp; done) | (simp; omega)) hb1.size; obtain ⟨hcc, hff⟩ := bcell hb1; have q1_0 := fun o => hcc (w.heap.size) o (by first | omega | (simp; done) | (simp; omega) | (simp [World.drewN]; done) | (simp [World.drewN]; omega)); clear hcc hff) | (go_at_call 78; refine (HK.out _).mono ?_; rintro e w2 ⟨rfl, hb2⟩; have hz2 : w.heap.size < w2.heap.size := Nat.lt_of_lt_of_le (by first | omega | (simp; done) | (simp; omega)) hb2.size; obtain ⟨hcc, hff⟩ := bcell hb2; have q2_0 := fun o => hcc (w.heap.size) o (by first | omega | (simp; done) | (simp; omega) | (simp [World.drewN]; done) | (simp [World.drewN]; omega)); clear hcc hff) | (go_at_call 79; refine (HT.out _).mono ?_; rintro e w3 ⟨rfl, hb3⟩; have hz3 : w.heap.size < w3.heap.size := Nat.lt_of_lt_of_le (by first | omega | (simp; done) | (simp; omega)) hb3.size; obtain ⟨hcc, hff⟩ := bcell hb3; have q3_0 := fun o => hcc (w.heap.size) o (by first | omega | (simp; done) | (simp; omega) | (simp [World.drewN]; done) | (simp [World.drewN]; omega)); clear hcc hff) | (go_at_call 72; refine (alive33 _).mono ?_; rintro e w6 ⟨rfl, hb6⟩; have hz6 : w.heap.size < w6.heap.size := Nat.lt_of_lt_of_le (by first | omega | (simp; done) | (simp; omega)) hb6.size; obtain ⟨hcc, hff⟩ := bcell hb6; have q6_0 := fun o => hcc (w.heap.size) o (by first | omega | (simp; done) | (simp; omega) | (simp [World.drewN]; done) | (simp [World.drewN]; omega)); clear hcc hff))
          go_ret
          exact ⟨rfl, by repeat (first | exact Below.refl _ _ | apply below_alloc | apply below_drewN | assumption | (refine below_then ?_ (by assumption)))⟩
      · clear HE hR hn
        rcases hk with rfl | rfl
        all_goals
          go_enter Try.func14, Try.ntmps14
          go_wp2_with fail
          go_quiet (fail)
          go_wp2_with (first | (go_at_call 77; refine (HR.out _).mono ?_; rintro e w1 ⟨rfl, hb1⟩; have hz1 : w.heap.size < w1.heap.size := Nat.lt_of_lt_of_le (by first | omega | (simp; done) | (simp; omega)) hb1.size; obtain ⟨hcc, hff⟩ := bcell hb1; have q1_0 := fun o => hcc (w.heap.size) o (by first | omega | (simp; done) | (simp; omega) | (simp [World.drewN]; done) | (simp [World.drewN]; omega)); clear hcc hff) | (go_at_call 78; refine (HK.out _).mono ?_; rintro e w2 ⟨rfl, hb2⟩; have hz2 : w.heap.size < w2.heap.size := Nat.lt_of_lt_of_le (by first | omega | (simp; done) | (simp; omega)) hb2.size; obtain ⟨hcc, hff⟩ := bcell hb2; have q2_0 := fun o => hcc (w.heap.size) o (by first | omega | (simp; done) | (simp; omega) | (simp [World.drewN]; done) | (simp [World.drewN]; omega)); clear hcc hff) | (go_at_call 79; refine (HT.out _).mono ?_; rintro e w3 ⟨rfl, hb3⟩; have hz3 : w.heap.size < w3.heap.size := Nat.lt_of_lt_of_le (by first | omega | (simp; done) | (simp; omega)) hb3.size; obtain ⟨hcc, hff⟩ := bcell hb3; have q3_0 := fun o => hcc (w.heap.size) o (by first | omega | (simp; done) | (simp; omega) | (simp [World.drewN]; done) | (simp [World.drewN]; omega)); clear hcc hff) | (go_at_call 72; refine (alive33 _).mono ?_; rintro e w6 ⟨rfl, hb6⟩; have hz6 : w.heap.size < w6.heap.size := Nat.lt_of_lt_of_le (by first | omega | (simp; done) | (simp; omega)) hb6.size; obtain ⟨hcc, hff⟩ := bcell hb6; have q6_0 := fun o => hcc (w.heap.size) o (by first | omega | (simp; done) | (simp; omega) | (simp [World.drewN]; done) | (simp [World.drewN]; omega)); clear hcc hff))
          go_ret
          exact ⟨rfl, by repeat (first | exact Below.refl _ _ | apply below_alloc | apply below_drewN | assumption | (refine below_then ?_ (by assumption)))⟩
      · exact absurd ⟨hk, hn⟩ hR
    · have HE : confErr k r = 10 := by unfold confErr; rw [if_neg hk]
      rw [HE] at HK
      have b1 : (k == 0) = false := beq_eq_false_iff_ne.2 (fun h => hk (.inl h))
      have b2 : (k == 1) = false := beq_eq_false_iff_ne.2 (fun h => hk (.inr h))
      rcases three with ⟨hr, hn⟩ | ⟨hr, hr2, hn⟩ | ⟨hr, hr2, hn⟩
      all_goals
        clear HE hR hn hk
        go_enter Try.func14, Try.ntmps14
        go_wp2_with fail
        go_quiet (fail)
        go_wp2_with (first | (go_at_call 77; refine (HR.out _).mono ?_; rintro e w1 ⟨rfl, hb1⟩; have hz1 : w.heap.size < w1.heap.size := Nat.lt_of_lt_of_le (by first | omega | (simp; done) | (simp; omega)) hb1.size; obtain ⟨hcc, hff⟩ := bcell hb1; have q1_0 := fun o => hcc (w.heap.size) o (by first | omega | (simp; done) | (simp; omega) | (simp [World.drewN]; done) | (simp [World.drewN]; omega)); clear hcc hff) | (go_at_call 78; refine (HK.out _).mono ?_; rintro e w2 ⟨rfl, hb2⟩; have hz2 : w.heap.size < w2.heap.size := Nat.lt_of_lt_of_le (by first | omega | (simp; done) | (simp; omega)) hb2.size; obtain ⟨hcc, hff⟩ := bcell hb2; have q2_0 := fun o => hcc (w.heap.size) o (by first | omega | (simp; done) | (simp; omega) | (simp [World.drewN]; done) | (simp [World.drewN]; omega)); clear hcc hff) | (go_at_call 79; refine (HT.out _).mono ?_; rintro e w3 ⟨rfl, hb3⟩; have hz3 : w.heap.size < w3.heap.size := Nat.lt_of_lt_of_le (by first | omega | (simp; done) | (simp; omega)) hb3.size; obtain ⟨hcc, hff⟩ := bcell hb3; have q3_0 := fun o => hcc (w.heap.size) o (by first | omega | (simp; done) | (simp; omega) | (simp [World.drewN]; done) | (simp [World.drewN]; omega)); clear hcc hff) | (go_at_call 72; refine (alive33 _).mono ?_; rintro e w6 ⟨rfl, hb6⟩; have hz6 : w.heap.size < w6.heap.size := Nat.lt_of_lt_of_le (by first | omega | (simp; done) | (simp; omega)) hb6.size; obtain ⟨hcc, hff⟩ := bcell hb6; have q6_0 := fun o => hcc (w.heap.size) o (by first | omega | (simp; done) | (simp; omega) | (simp [World.drewN]; done) | (simp [World.drewN]; omega)); clear hcc hff))
        go_ret
        exact ⟨rfl, by repeat (first | exact Below.refl _ _ | apply below_alloc | apply below_drewN | assumption | (refine below_then ?_ (by assumption)))⟩
end Go.Proofs.Ytgebopmiefgdoaa

/-
  The walk of the law DigitPairs: for every bytes and every text it returns true.
-/
import Derived.Test.YtgebopmiefgdoaaUnpair
namespace Go.Proofs.Ytgebopmiefgdoaa
open Go.RowKit
set_option maxRecDepth 100000 in
set_option maxHeartbeats 4000000 in
theorem DigitPairs_walk (w : World) (b : Sl Int) (gb : b.Good w 1 u8Cell u8Good) (s : ByteArray) (gs : s.size ≤ maxLen) :
    Calls Try.prog 7 #[b.v, .string s] w fun e w' => e = .returned (.bool true) ∧ Below w.heap.size w w' := by
  obtain ⟨l, rfl, hl⟩ := str_list s
  obtain ⟨A, n, c, ys⟩ := b
  obtain ⟨hnc, hcm, hr, hlen, hall⟩ := gb
  dsimp only [Sl.v] at *
  obtain ⟨m, hm, hml⟩ := bytes_in hall
  rw [hm] at hr
  unfold maxLen at hcm gs
  have hsz : (ByteArray.mk l.toArray).size = l.length := by simp [ByteArray.size_mk']
  have g' : l.length ≤ 2 ^ 63 - 1 := by omega
  have hmn : m.length = n := by omega
  have HM := Lib.hid hmn
  clear hl gs hm hml hall hlen hmn ys
  by_cases hbig : 200 < n
  · go_enter Try.func7, Try.ntmps7
    go_wp2
    go_ret
    exact ⟨rfl, Below.refl _ _⟩
  · by_cases hbig2 : 200 < l.length
    · go_enter Try.func7, Try.ntmps7
      go_wp2
      go_ret
      exact ⟨rfl, Below.refl _ _⟩
    · have hpl : (pairsL m).length ≤ 400 := by rw [pairsL_length, HM.out]; omega
      have HU := Lib.hid (unpS_pairs m)
      go_enter Try.func7, Try.ntmps7
      go_wp2_with fail
      refine (Pairs_any m A n c w.heap.size w (Nat.le_refl _) hr (by omega)).mono ?_
      rintro e w1 ⟨rfl, hb1⟩
      go_wp2_with fail
      refine (Unpair_any (pairsL m) w1 (by omega)).mono ?_
      rintro e w2 ⟨v2, rfl, hown2, hb2⟩
      rw [HU.out] at hown2 ⊢
      dsimp only at hown2
      go_wp2_with fail
      refine (Unpair_any l w2 (by omega)).mono ?_
      rintro e w3 ⟨v3, rfl, hown3, hb3⟩
      go_wp2_with fail
      refine (RefUnpair_any l w3 (by omega)).mono ?_
      rintro e w4 ⟨v4, rfl, hown4, hb4⟩
      have hb14 := below_then (below_then (below_then hb1 hb2) hb3) hb4
      obtain ⟨A2, c2, rfl, hr2, _, _⟩ := own_reads hown2
      obtain ⟨A3, c3, rfl, hr3, _, _⟩ := own_reads hown3
      obtain ⟨A4, c4, rfl, hr4, _, _⟩ := own_reads hown4
      have hr0' := hr.below hb14
      have hr2' := (hr2.below hb3).more hb3.size |>.below hb4
      have hr3' := hr3.below hb4
      clear hown2 hown3 hown4 hr hr2 hr3 hb1 hb2 hb3 hb4
      go_wp2_with (first | (go_at_call 35; refine (RefPairs_any m A n c _ _ hr0' (by omega)).mono ?_; rintro e w5 ⟨rfl, rfl⟩) | (go_at_call 36; first | ((with_reducible refine (Equal_any m m _ _ _ _ _ _ _ _ _ hr2' hr0').mono ?_); rintro e w5 ⟨rfl, rfl⟩) | ((with_reducible refine (Equal_any (unpS l).1 (unpS l).1 _ _ _ _ _ _ _ _ _ hr3' hr4).mono ?_); rintro e w5 ⟨rfl, rfl⟩)) | (go_at_call 37; refine (alive02 _).mono ?_; rintro e w6 ⟨rfl, hb6⟩))
      go_ret
      exact ⟨rfl, below_then hb14 hb6⟩
end Go.Proofs.Ytgebopmiefgdoaa

/-
  The walk of the law ConfReads: for every text it returns true.
-/
import Derived.Test.YtgebopmiefgdoaaConfLaw
import Derived.Test.YtgebopmiefgdoaaDec
namespace Go.Proofs.Ytgebopmiefgdoaa
open Go.RowKit
set_option maxRecDepth 100000 in
set_option maxHeartbeats 2000000 in
theorem ConfReads_walk (w : World) (s : ByteArray) (g : s.size ≤ maxLen) :
    Calls Try.prog 12 #[.string s] w fun e w' => e = .returned (.bool true) ∧ Below w.heap.size w w' := by
  obtain ⟨l, rfl, hl⟩ := str_list s
  unfold maxLen at g
  have hsz : (ByteArray.mk l.toArray).size = l.length := by simp [ByteArray.size_mk']
  have g' : l.length ≤ 2 ^ 63 - 1 := by omega
  clear hl g
  by_cases hbig : 40 < l.length
  · go_enter Try.func12, Try.ntmps12
    go_wp2
    go_ret
    exact ⟨rfl, Below.refl _ _⟩
  · have HC : Hid (∀ W : World, Calls Try.prog 71 #[.string ⟨l.toArray⟩] W fun e w' => e = .returned (.tuple #[.agg #[.int .i64 (confRead l).1, .int .i64 (confRead l).2.1], .int .i64 (confRead l).2.2]) ∧ Below W.heap.size W w') := fun W => ConfRead_any l W (by omega)
    rcases confRead_cases l with ⟨k, r, he, hR, hL⟩ | ⟨he, h1, h2⟩
    · rw [he] at HC
      dsimp only at HC
      have HT : Hid (∀ W : World, Calls Try.prog 73 #[.agg #[.int .i64 k, .int .i64 r]] W fun e w' => e = .returned (.string ⟨l.toArray⟩) ∧ Below W.heap.size W w') := fun W => by
        have h := Text33_any k r W hR
        rw [hL] at h
        exact h
      obtain ⟨hk, r0, r1⟩ := hR
      clear hL he
      rcases hk with rfl | rfl
      all_goals
        go_enter Try.func12, Try.ntmps12
        go_wp2_with (first | (go_at_call 71; refine (HC.out _).mono ?_; rintro e w1 ⟨rfl, hb1⟩; have hz1 := hb1.size) | (go_at_call 73; refine (HT.out _).mono ?_; rintro e w2 ⟨rfl, hb2⟩; have hz2 := hb2.size) | (go_at_call 72; refine (alive33 _).mono ?_; rintro e w3 ⟨rfl, hb3⟩))
        go_ret
        exact ⟨rfl, by repeat (first | exact Below.refl _ _ | apply below_alloc | assumption | (refine below_then ?_ (by assumption)))⟩
    · rw [he] at HC
      dsimp only at HC
      have e1 : (l == [84, 83, 67]) = false := beq_eq_false_iff_ne.2 h1
      have e2 : (l == [68, 77, 65]) = false := beq_eq_false_iff_ne.2 h2
      have e3 : ((ByteArray.mk l.toArray).toList == (ByteArray.mk #[84, 83, 67]).toList) = false := (str_eq l [84, 83, 67]).trans (decide_eq_false h1)
      have e4 : ((ByteArray.mk l.toArray).toList == (ByteArray.mk #[68, 77, 65]).toList) = false := (str_eq l [68, 77, 65]).trans (decide_eq_false h2)
      clear h1 h2 he
      go_enter Try.func12, Try.ntmps12
      go_wp2_with (first | (go_at_call 71; refine (HC.out _).mono ?_; rintro e w1 ⟨rfl, hb1⟩; have hz1 := hb1.size) | (go_at_call 72; refine (alive33 _).mono ?_; rintro e w3 ⟨rfl, hb3⟩))
      go_ret
      exact ⟨rfl, by repeat (first | exact Below.refl _ _ | apply below_alloc | assumption | (refine below_then ?_ (by assumption)))⟩
end Go.Proofs.Ytgebopmiefgdoaa

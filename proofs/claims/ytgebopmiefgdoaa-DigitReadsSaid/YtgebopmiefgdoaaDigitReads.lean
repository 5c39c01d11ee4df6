/-
  The walk of the law DigitReads: for every text it returns true.
-/
import Derived.Test.YtgebopmiefgdoaaPairs
import Derived.Test.YtgebopmiefgdoaaDec
namespace Go.Proofs.Ytgebopmiefgdoaa
open Go.RowKit
set_option maxRecDepth 100000 in
set_option maxHeartbeats 2000000 in
theorem DigitReads_walk (w : World) (s : ByteArray) (g : s.size ≤ maxLen) :
    Calls Try.prog 10 #[.string s] w fun e w' => e = .returned (.bool true) ∧ Below w.heap.size w w' := by
  obtain ⟨l, rfl, hl⟩ := str_list s
  unfold maxLen at g
  have hsz : (ByteArray.mk l.toArray).size = l.length := by simp [ByteArray.size_mk']
  have g' : l.length ≤ 2 ^ 63 - 1 := by omega
  clear hl g
  by_cases hbig : 100 < l.length
  · go_enter Try.func10, Try.ntmps10
    go_wp2
    go_ret
    exact ⟨rfl, Below.refl _ _⟩
  · go_enter Try.func10, Try.ntmps10
    go_wp2_with (first | (go_at_call 57; refine (Read_any l _ (by omega)).mono ?_; rintro e w1 ⟨rfl, rfl⟩) | (go_at_call 59; refine (ReadDec_any l _ (by omega)).mono ?_; rintro e w1 ⟨rfl, rfl⟩) | (go_at_call 58; (first | (with_reducible refine (RefHex_any l _ (by omega)).mono ?_) | (with_reducible refine (RefDec_any l _ (by omega)).mono ?_)); rintro e w1 ⟨rfl, rfl⟩) | (go_at_call 37; refine (alive02 _).mono ?_; rintro e w1 ⟨rfl, hb⟩))
    go_ret
    exact ⟨rfl, hb⟩
end Go.Proofs.Ytgebopmiefgdoaa

/-
  Contracts of ring.All, slices.Clone and slices.Reverse at records.
-/
import Derived.Test.YtgebopmiefgdoaaRing2
import Derived.BigRegion
namespace Go.Proofs.Ytgebopmiefgdoaa
open Go.RowKit
theorem recsV_one (l : List Rec) : ∀ u ∈ recsV l, u.oneCell' = true := by
  intro u hu
  unfold recsV at hu
  rw [List.mem_flatMap] at hu
  obtain ⟨r, _, hr⟩ := hu
  exact rec_one r u hr
set_option maxRecDepth 100000 in
set_option maxHeartbeats 4000000 in
theorem RAll_any {B g : Nat} {P : List Rec} {at_ high total n : Nat} {v : Value} (w : World) (h : RingAt B g P at_ high total v w) (hn : P.length = n) :
    Calls Try.prog 54 #[.pointer (some ⟨g, 0, none⟩)] w fun e w' => ∃ v', e = .returned v' ∧ w'.ownsRow w.heap.size 64 9 v' n (recsV (ringL P at_)) ∧ Below w.heap.size w w' := by
  obtain ⟨i0, hi, hz0, hz1, hz2⟩ := info_parts info_rec
  obtain ⟨A, c, rfl, _, _, _⟩ := own_reads h.own
  have q := h.blk.cell 0
  simp only [List.getElem?_toArray, List.getElem?_cons_zero, hn] at q
  have h2 := h.h2
  have h3 := h.h3
  have hLl := ringL_len P at_
  rw [hn] at hLl h3
  have HH := Lib.hid h
  have HN := Lib.hid hn
  have HLL := Lib.hid hLl
  clear h hn hLl
  have HG : Hid (∀ (i : Nat) (y : Rec) (W : World), Below w.heap.size w W → i < n → (ringL P at_)[i]? = some y → Calls Try.prog 111 #[.pointer (some ⟨g, 0, none⟩), .int .i64 (i : Int)] W fun e w' => e = .returned y.v ∧ Below W.heap.size W w') := fun i y W hb hi hy => RGet_any i y W (HH.out.below hb) (by rw [HN.out]; exact hi) hy
  generalize ringL P at_ = L at *
  go_enter Try.func54, Try.ntmps54
  go_wp2
  go_loopw [3, 4, 10] (fun v' _ i wr => ∃ k : Nat, k ≤ n ∧ i = .int .i64 k ∧ wr.ownsRow w.heap.size 64 9 v' k (recsV (L.take k)) ∧ Below w.heap.size w wr) (fun _ _ i _ => n - (intOf i).toNat)
  case atStart => exact ⟨0, by omega, rfl, own_nil _ _ _ _, Below.refl _ _⟩
  case round =>
    obtain ⟨k, hk, rfl, hown, hbl⟩ := hrel
    by_cases hlt : k < n
    · have hlt' : (k : Int) < (n : Int) := by omega
      obtain ⟨⟨y0, y1, y2, y3, y4, y5, y6, y7, y8⟩, hy⟩ : ∃ y, L[k]? = some y := ⟨L[k]'(by have := HLL.out; omega), List.getElem?_eq_getElem _⟩
      have HGK := Lib.hid (HG.out k _ wr hbl hlt hy)
      have HT : Hid (L.take (k + 1) = L.take k ++ [⟨y0, y1, y2, y3, y4, y5, y6, y7, y8⟩]) := by
        show L.take (k + 1) = L.take k ++ [⟨y0, y1, y2, y3, y4, y5, y6, y7, y8⟩]
        rw [List.take_add_one, hy]; rfl
      clear hy
      go_wp2_with fail
      refine HGK.out.mono ?_
      rintro e w1 ⟨rfl, hb1⟩
      simp only [Rec.v, Rec.cells]
      have hown1 := own_below hown hb1
      have hbl1 := below_then hbl hb1
      have hs1 := hbl1.size
      have hone : ∀ u ∈ ([.int .u16 y0, .int .u8 y1, .bool y2, .bool y3, .bool y4, .bool y5, .bool y6, .bool y7, .bool y8] : List Value), u.oneCell' = true := rec_one ⟨y0, y1, y2, y3, y4, y5, y6, y7, y8⟩
      have hnew : Reads (w1.alloc (.cells #[.int .u16 y0, .int .u8 y1, .bool y2, .bool y3, .bool y4, .bool y5, .bool y6, .bool y7, .bool y8] 64)) (w1.heap.size + 1) 9 (some ⟨w1.heap.size, 0, none⟩) 1 [.int .u16 y0, .int .u8 y1, .bool y2, .bool y3, .bool y4, .bool y5, .bool y6, .bool y7, .bool y8] := by
        refine ⟨rfl, fun _ => ⟨_, rfl, Nat.lt_succ_self _, fun q u hu => ?_⟩⟩
        rw [addr_add0, (Blk.new w1 64 #[.int .u16 y0, .int .u8 y1, .bool y2, .bool y3, .bool y4, .bool y5, .bool y6, .bool y7, .bool y8]).cell q]
        simpa using hu
      clear hown hb1 hbl HGK
      go_wp2_with ((at_builtin; refine wpList_append_any _ rfl (.tmp 13) (.tmp 17) 57 rfl w.heap.size 64 i0 (.agg #[.int .u16 0, .int .u8 0, .bool false, .bool false, .bool false, .bool false, .bool false, .bool false, .bool false]) 9 10 Try.underlying57 hi hz0 hz1 hz2 rfl (by omega) _ k (recsV (L.take k)) rfl (hown1.alloc _) (w1.heap.size + 1) (some ⟨w1.heap.size, 0, none⟩) 1 1 _ rfl hnew hone (by simp only [maxLen]; omega) (by omega) (Nat.le_trans hs1 (by simp)) ?_; intro v1 w2 hown2 hg2 hat2))
      go_roundw
      case rel => exact ⟨k + 1, by omega, by go_num, by rw [HT.out, recsV_append]; exact hown2, below_own (below_alloc' hbl1) (hown1.alloc _) hg2 (Nat.le_trans hs1 (by simp))⟩
      case measure => simp [intOf]; omega
    · obtain rfl : k = n := by omega
      have hall : L.take k = L := List.take_of_length_le (by rw [HLL.out]; exact Nat.le_refl _)
      rw [hall] at hown
      clear hall
      go_wp2
      go_ret
      exact ⟨_, rfl, hown, hbl⟩
set_option maxRecDepth 100000 in
set_option maxHeartbeats 2000000 in
theorem CloneR_any (xs : List Rec) (A : Option Addr) (n c B : Nat) (w : World) (hr : Reads w B 9 A n (recsV xs)) (hB : B ≤ w.heap.size) (hn : n ≤ 1048576) :
    Calls Try.prog 46 #[.slice A n c] w fun e w' => ∃ v, e = .returned v ∧ w'.ownsRow w.heap.size 64 9 v n (recsV xs) ∧ Below w.heap.size w w' := by
  obtain ⟨i0, hi, hz0, hz1, hz2⟩ := info_parts info_rec
  rcases A with _ | ad
  · obtain rfl : n = 0 := by
      rcases Nat.eq_zero_or_pos n with h | h
      · exact h
      · obtain ⟨ad, e, _⟩ := hr.2 h
        cases e
    have hx : recsV xs = [] := List.eq_nil_of_length_eq_zero (by simpa using hr.1)
    rw [hx]
    have he : ∀ W : World, (binOp .eql 57 (.slice none 0 c) (.slice none 0 0)).run Try.prog W = .ok (.bool true) W := fun _ => rfl
    go_enter Try.func46, Try.ntmps46
    go_wp2
    go_ret
    exact ⟨_, rfl, own_nil _ _ _ _, Below.refl _ _⟩
  · have hone := recsV_one xs
    have he : ∀ W : World, (binOp .eql 57 (.slice (some ad) n c) (.slice none 0 0)).run Try.prog W = .ok (.bool false) W := fun _ => rfl
    have hr' : Reads (w.alloc (.cells #[] 64)) B 9 (some ad) n (recsV xs) := hr.keep fun p hp => Below.cell (B := w.heap.size) ((Below.refl _ w).alloc (Nat.le_refl _) _) (by omega)
    have hown : (w.alloc (.cells #[] 64)).ownsRow w.heap.size 64 9 (.slice (some ⟨w.heap.size, 0, none⟩) 0 0) 0 [] := World.ownsRow_made w #[] 0 (Nat.le_refl _) (by simp [maxLen]) rfl
    go_enter Try.func46, Try.ntmps46
    go_wp2_with (first | (at_builtin; refine wpList_append_any _ rfl (.tmp 5) (.tmp 6) 57 rfl w.heap.size 64 i0 (.agg #[.int .u16 0, .int .u8 0, .bool false, .bool false, .bool false, .bool false, .bool false, .bool false, .bool false]) 9 10 Try.underlying57 hi hz0 hz1 hz2 rfl (by omega) _ 0 [] rfl hown B (some ad) n c (recsV xs) rfl hr' hone (by simp only [maxLen]; omega) (by omega) (by simp) ?_; intro v1 w1 hown1 hg1 hat1))
    go_ret
    refine ⟨_, rfl, by simpa using hown1, below_own ((Below.refl _ w).alloc (Nat.le_refl _) _) hown hg1 (by simp)⟩
end Go.Proofs.Ytgebopmiefgdoaa

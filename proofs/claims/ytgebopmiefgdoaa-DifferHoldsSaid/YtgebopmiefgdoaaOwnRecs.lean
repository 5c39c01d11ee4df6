/-
  Contract of differ.Own: the records that are the processor's own.
-/
import Derived.Test.YtgebopmiefgdoaaRecLines
import Derived.Test.YtgebopmiefgdoaaEqRec
namespace Go.Proofs.Ytgebopmiefgdoaa
open Go.RowKit
def ownL (l : List Rec) : List Rec := l.filter (·.mine)
theorem ownL_take (l : List Rec) (k : Nat) (r : Rec) (h : l[k]? = some r) : ownL (l.take (k + 1)) = ownL (l.take k) ++ if r.mine then [r] else [] := by
  obtain ⟨hk, rfl⟩ := List.getElem?_eq_some_iff.1 h
  rw [List.take_succ_eq_append_getElem hk]
  simp only [ownL, List.filter_append]
  cases hm : l[k].mine <;> simp [hm]
theorem ownL_len (l : List Rec) (k : Nat) : (ownL (l.take k)).length ≤ k := by
  refine Nat.le_trans (List.length_filter_le _ _) ?_
  rw [List.length_take]
  omega
set_option maxRecDepth 100000 in
set_option maxHeartbeats 4000000 in
theorem Own_any (ys : List Rec) (A : Option Addr) (n c B : Nat) (w : World) (hB : B ≤ w.heap.size) (hr : Reads w B 9 A n (recsV ys)) (hn : n ≤ 1048576) :
    Calls Try.prog 105 #[.slice A n c] w fun e w' => ∃ v, e = .returned v ∧ w'.ownsRow w.heap.size 64 9 v (ownL ys).length (recsV (ownL ys)) ∧ Below w.heap.size w w' := by
  obtain ⟨i0, hi, hz0, hz1, hz2⟩ := info_parts info_rec
  have hyl : ys.length = n := Reads.len Rec.cells_len (by omega) hr
  have HL := Lib.hid hyl
  clear hyl
  go_enter Try.func105, Try.ntmps105
  go_wp2
  go_loopw [3, 8] (fun v i wr => ∃ k : Nat, k ≤ n ∧ i = .int .i64 k ∧ wr.ownsRow w.heap.size 64 9 v (ownL (ys.take k)).length (recsV (ownL (ys.take k))) ∧ Below w.heap.size w wr) (fun _ i _ => n - (intOf i).toNat)
  case atStart => exact ⟨0, by omega, rfl, own_nil _ _ _ _, Below.refl _ _⟩
  case round =>
    obtain ⟨k, hk, rfl, hown, hbl⟩ := hrel
    by_cases hlt : k < n
    · obtain ⟨ad, y, rfl, had, hy, hc⟩ := rec_at (hr.below (hbl.mono hB)) hlt
      have HT := Lib.hid (ownL_take ys k y hy)
      have hlen := ownL_len ys k
      have hone := rec_one y
      have hlt' : (k : Int) < (n : Int) := by omega
      obtain ⟨y0, y1, y2, y3, y4, y5, y6, y7, y8⟩ := y
      have HC : Hid (∀ j v, ([.int .u16 y0, .int .u8 y1, .bool y2, .bool y3, .bool y4, .bool y5, .bool y6, .bool y7, .bool y8] : List Value)[j]? = some v → wr.cell? ((ad.add (k * 9)).add j) = some v) := hc
      have hone : ∀ u ∈ ([.int .u16 y0, .int .u8 y1, .bool y2, .bool y3, .bool y4, .bool y5, .bool y6, .bool y7, .bool y8] : List Value), u.oneCell' = true := hone
      have hbs := hbl.size
      clear hc hy
      cases y8
      · have HT2 : Hid (ownL (ys.take (k + 1)) = ownL (ys.take k)) := by
          show ownL (ys.take (k + 1)) = ownL (ys.take k)
          rw [HT.out]
          simp
        go_wp2_with (first | (refine wpList_load_at rfl 64 (.tmp 10) rfl (ad.add (k * 9)) rfl [.int .u16 y0, .int .u8 y1, .bool y2, .bool y3, .bool y4, .bool y5, .bool y6, .bool y7, .bool false] _ HC.out Try.underlying64 rfl (by kernel_rfl) ?_) | fail)
        go_roundw
        case rel => exact ⟨k + 1, by omega, by go_num, by rw [HT2.out]; exact hown.alloc _, below_alloc hbl _⟩
        case measure => simp [intOf]; omega
      · have HT2 : Hid (ownL (ys.take (k + 1)) = ownL (ys.take k) ++ [⟨y0, y1, y2, y3, y4, y5, y6, y7, true⟩]) := by
          show ownL (ys.take (k + 1)) = _
          rw [HT.out]
          simp
        generalize ownL (ys.take k) = L at *
        have hnew : Reads ((wr.alloc (.cells #[.int .u16 y0, .int .u8 y1, .bool y2, .bool y3, .bool y4, .bool y5, .bool y6, .bool y7, .bool true] 64)).alloc (.cells #[.int .u16 y0, .int .u8 y1, .bool y2, .bool y3, .bool y4, .bool y5, .bool y6, .bool y7, .bool true] 64)) (wr.heap.size + 1 + 1) 9 (some ⟨wr.heap.size + 1, 0, none⟩) 1 [.int .u16 y0, .int .u8 y1, .bool y2, .bool y3, .bool y4, .bool y5, .bool y6, .bool y7, .bool true] := by
          have h := Reads.newS (wr.alloc (.cells #[.int .u16 y0, .int .u8 y1, .bool y2, .bool y3, .bool y4, .bool y5, .bool y6, .bool y7, .bool true] 64)) 64 #[.int .u16 y0, .int .u8 y1, .bool y2, .bool y3, .bool y4, .bool y5, .bool y6, .bool y7, .bool true] 1 9 (wr.heap.size + 1 + 1) rfl (by simp)
          have e1 : (wr.alloc (.cells #[.int .u16 y0, .int .u8 y1, .bool y2, .bool y3, .bool y4, .bool y5, .bool y6, .bool y7, .bool true] 64)).heap.size = wr.heap.size + 1 := by simp
          rw [e1] at h
          exact h
        go_wp2_with (first | (refine wpList_load_at rfl 64 (.tmp 10) rfl (ad.add (k * 9)) rfl [.int .u16 y0, .int .u8 y1, .bool y2, .bool y3, .bool y4, .bool y5, .bool y6, .bool y7, .bool true] _ HC.out Try.underlying64 rfl (by kernel_rfl) ?_) | (refine wpList_load_row rfl 64 (.tmp 5) rfl wr.heap.size rfl 64 _ (0, 0) _ (Blk.new wr _ #[.int .u16 y0, .int .u8 y1, .bool y2, .bool y3, .bool y4, .bool y5, .bool y6, .bool y7, .bool true]) Try.underlying64 rfl (by kernel_rfl) ?_) | (at_builtin; refine wpList_append_any _ rfl (.tmp 14) (.tmp 16) 57 rfl w.heap.size 64 i0 (.agg #[.int .u16 0, .int .u8 0, .bool false, .bool false, .bool false, .bool false, .bool false, .bool false, .bool false]) 9 10 Try.underlying57 hi hz0 hz1 hz2 rfl (by omega) u3 L.length (recsV L) rfl ((hown.alloc _).alloc _) (wr.heap.size + 1 + 1) (some ⟨wr.heap.size + 1, 0, none⟩) 1 1 [.int .u16 y0, .int .u8 y1, .bool y2, .bool y3, .bool y4, .bool y5, .bool y6, .bool y7, .bool true] rfl hnew hone (by simp only [maxLen]; omega) (by omega) (Nat.le_trans hbs (by simp; omega)) ?_; intro v1 w1 hown1 hg1 hat1))
        go_roundw
        case rel => exact ⟨k + 1, by omega, by go_num, by rw [HT2.out, recsV_append, List.length_append]; exact hown1, below_own (below_alloc' (below_alloc' hbl)) ((hown.alloc _).alloc _) hg1 (Nat.le_trans hbs (by simp; omega))⟩
        case measure => simp [intOf]; omega
    · obtain rfl : k = n := by omega
      have hall : ys.take k = ys := List.take_of_length_le (by rw [HL.out]; exact Nat.le_refl _)
      rw [hall] at hown
      clear hall
      go_wp2
      go_ret
      exact ⟨_, rfl, hown, hbl⟩
end Go.Proofs.Ytgebopmiefgdoaa

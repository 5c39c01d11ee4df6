/-
  Contracts of ram.Part and ram.Page.
-/
import Derived.Test.YtgebopmiefgdoaaRam4
namespace Go.Proofs.Ytgebopmiefgdoaa
open Go.RowKit
/-- n bytes from a on, round the end. -/
def partL (m : Nat → UInt8) (a n : Nat) : List UInt8 := (List.range n).map fun k => m ((a + k) % 65536)
theorem partL_succ (m : Nat → UInt8) (a n : Nat) : partL m a (n + 1) = partL m a n ++ [m ((a + n) % 65536)] := by simp [partL, List.range_succ]
theorem partL_len (m : Nat → UInt8) (a n : Nat) : (partL m a n).length = n := by simp [partL]
set_option maxRecDepth 100000 in
set_option maxHeartbeats 4000000 in
theorem Part_any {B g : Nat} {m : Nat → UInt8} {rom : Int} {pb : Nat → Option Nat} {cs : Array Value} (a N : Nat) (cnt : Int) (w : World) (h : RamAt B g m rom pb cs w) (hN : (cnt = N ∧ N ≤ 65536) ∨ (cnt < 0 ∧ N = 0) ∨ (65536 < cnt ∧ N = 65536)) :
    Calls Try.prog 95 #[.pointer (some ⟨g, 0, none⟩), .int .u16 (a : Int), .int .i64 cnt] w fun e w' => ∃ v, e = .returned v ∧ w'.ownsRow w.heap.size 5 1 v N (bytesV (partL m a N)) ∧ Below w.heap.size w w' := by
  obtain ⟨i0, hi, hz0, hz1, hz2⟩ := info_parts info_u8
  have hmx : min (max cnt 0) 65536 = (N : Int) := by omega
  have hN6 : N ≤ 65536 := by omega
  have HH := Lib.hid h
  clear h
  go_enter Try.func95, Try.ntmps95
  rcases hN with ⟨rfl, hN⟩ | ⟨hc, rfl⟩ | ⟨hc, rfl⟩
  · go_wp2_with fail
    go_loopw [7, 12] (fun v i wr => ∃ k : Nat, k ≤ N ∧ i = .int .i64 k ∧ wr.ownsRow w.heap.size 5 1 v k (bytesV (partL m a k)) ∧ Below w.heap.size w wr) (fun _ i _ => N - (intOf i).toNat)
    case atStart => exact ⟨0, by omega, rfl, own_nil _ _ _ _, Below.refl _ _⟩
    case round =>
      obtain ⟨k, hk, rfl, hown, hbl⟩ := hrel
      by_cases hlt : k < N
      · have hlt' : (k : Int) < (N : Int) := by omega
        have hq : (a + k) % 65536 < 65536 := by omega
        have HRD := Lib.hid (Read_a ((a + k) % 65536) wr (HH.out.below hbl) hq)
        have hw1 : IntKind.u16.wrap ((a : Int) + (k : Int)) = (((a + k) % 65536 : Nat) : Int) := by rw [IntKind.wrap_u16]; omega
        have hw2 : ((a : Int) + (k : Int)) % 65536 = (((a + k) % 65536 : Nat) : Int) := by omega
        have HT := Lib.hid (partL_succ m a k)
        generalize (a + k) % 65536 = q at *
        generalize m q = x at *
        go_wp2_with fail
        refine (HRD.out).mono ?_
        rintro e w1 ⟨rfl, hb1⟩
        have hown1 := own_below hown hb1
        have hbl1 := below_then hbl hb1
        have hs1 := hbl1.size
        clear hb1 hown
        have hnew : Reads (w1.alloc (.cells #[.int .u8 (x.toNat : Int)] 5)) (w1.heap.size + 1) 1 (some ⟨w1.heap.size, 0, none⟩) 1 (bytesV [x]) := Reads.new1 w1 _ _ 1 _ rfl (Nat.lt_succ_self _)
        go_wp2_with ((at_builtin; refine wpList_append_any _ rfl (.tmp 15) (.tmp 22) 37 rfl w.heap.size 5 i0 (.int .u8 0) 1 1 Try.underlying37 hi hz0 hz1 hz2 rfl (by omega) u7 k (bytesV (partL m a k)) rfl (hown1.alloc _) (w1.heap.size + 1) (some ⟨w1.heap.size, 0, none⟩) 1 1 (bytesV [x]) rfl hnew (bytesV_one _) (by simp only [maxLen]; omega) (by omega) (Nat.le_trans hs1 (by simp)) ?_; intro v1 w2 hown2 hg2 hat2))
        go_roundw
        case rel => exact ⟨k + 1, by omega, by go_num, by rw [HT.out, bytesV_append]; exact hown2, below_own (below_alloc' hbl1) (hown1.alloc _) hg2 (Nat.le_trans hs1 (by simp))⟩
        case measure => simp [intOf]; omega
      · obtain rfl : k = N := by omega
        go_wp2
        go_ret
        exact ⟨_, rfl, hown, hbl⟩
  · go_wp2_with fail
    go_loopw [7, 12] (fun v i wr => ∃ k : Nat, k ≤ 0 ∧ i = .int .i64 k ∧ wr.ownsRow w.heap.size 5 1 v k (bytesV (partL m a k)) ∧ Below w.heap.size w wr) (fun _ i _ => 0 - (intOf i).toNat)
    case atStart => exact ⟨0, by omega, rfl, own_nil _ _ _ _, Below.refl _ _⟩
    case round =>
      obtain ⟨k, hk, rfl, hown, hbl⟩ := hrel
      by_cases hlt : k < 0
      · exact absurd hlt (by omega)
      · obtain rfl : k = 0 := by omega
        go_wp2
        go_ret
        exact ⟨_, rfl, hown, hbl⟩
  · go_wp2_with fail
    go_loopw [7, 12] (fun v i wr => ∃ k : Nat, k ≤ 65536 ∧ i = .int .i64 k ∧ wr.ownsRow w.heap.size 5 1 v k (bytesV (partL m a k)) ∧ Below w.heap.size w wr) (fun _ i _ => 65536 - (intOf i).toNat)
    case atStart => exact ⟨0, by omega, rfl, own_nil _ _ _ _, Below.refl _ _⟩
    case round =>
      obtain ⟨k, hk, rfl, hown, hbl⟩ := hrel
      by_cases hlt : k < 65536
      · have hlt' : (k : Int) < (65536 : Int) := by omega
        have hq : (a + k) % 65536 < 65536 := by omega
        have HRD := Lib.hid (Read_a ((a + k) % 65536) wr (HH.out.below hbl) hq)
        have hw1 : IntKind.u16.wrap ((a : Int) + (k : Int)) = (((a + k) % 65536 : Nat) : Int) := by rw [IntKind.wrap_u16]; omega
        have hw2 : ((a : Int) + (k : Int)) % 65536 = (((a + k) % 65536 : Nat) : Int) := by omega
        have HT := Lib.hid (partL_succ m a k)
        generalize (a + k) % 65536 = q at *
        generalize m q = x at *
        go_wp2_with fail
        refine (HRD.out).mono ?_
        rintro e w1 ⟨rfl, hb1⟩
        have hown1 := own_below hown hb1
        have hbl1 := below_then hbl hb1
        have hs1 := hbl1.size
        clear hb1 hown
        have hnew : Reads (w1.alloc (.cells #[.int .u8 (x.toNat : Int)] 5)) (w1.heap.size + 1) 1 (some ⟨w1.heap.size, 0, none⟩) 1 (bytesV [x]) := Reads.new1 w1 _ _ 1 _ rfl (Nat.lt_succ_self _)
        go_wp2_with ((at_builtin; refine wpList_append_any _ rfl (.tmp 15) (.tmp 22) 37 rfl w.heap.size 5 i0 (.int .u8 0) 1 1 Try.underlying37 hi hz0 hz1 hz2 rfl (by omega) u7 k (bytesV (partL m a k)) rfl (hown1.alloc _) (w1.heap.size + 1) (some ⟨w1.heap.size, 0, none⟩) 1 1 (bytesV [x]) rfl hnew (bytesV_one _) (by simp only [maxLen]; omega) (by omega) (Nat.le_trans hs1 (by simp)) ?_; intro v1 w2 hown2 hg2 hat2))
        go_roundw
        case rel => exact ⟨k + 1, by omega, by go_num, by rw [HT.out, bytesV_append]; exact hown2, below_own (below_alloc' hbl1) (hown1.alloc _) hg2 (Nat.le_trans hs1 (by simp))⟩
        case measure => simp [intOf]; omega
      · obtain rfl : k = 65536 := by omega
        go_wp2
        go_ret
        exact ⟨_, rfl, hown, hbl⟩
set_option maxRecDepth 100000 in
set_option maxHeartbeats 4000000 in
/-- A page that there is. -/
theorem Page_any {B g : Nat} {m : Nat → UInt8} {rom : Int} {pb : Nat → Option Nat} {cs : Array Value} (p : Nat) (w : World) (h : RamAt B g m rom pb cs w) (hp : p < 256) :
    Calls Try.prog 117 #[.pointer (some ⟨g, 0, none⟩), .int .i64 (p : Int)] w fun e w' => ∃ v, e = .returned v ∧ w'.ownsRow w.heap.size 5 1 v 256 (bytesV (partL m (256 * p) 256)) ∧ Below w.heap.size w w' := by
  have hP := Part_any (256 * p) 256 256 w h (.inl ⟨rfl, by omega⟩)
  rw [show ((256 * p : Nat) : Int) = (p : Int) * 256 by omega] at hP
  have HP := Lib.hid hP
  clear hP
  have hp0 : (0 : Int) ≤ (p : Int) := by omega
  have hp1 : (p : Int) < 256 := by omega
  clear h
  go_enter Try.func117, Try.ntmps117
  go_wp2_with fail
  refine HP.out.mono ?_
  rintro e w1 ⟨v, rfl, hown, hb⟩
  go_wp2
  go_ret
  exact ⟨v, rfl, hown, hb⟩
set_option maxRecDepth 100000 in
set_option maxHeartbeats 2000000 in
/-- A page that there is not. -/
theorem Page_none (g : Nat) (p : Int) (w : World) (hp : p < 0 ∨ 256 ≤ p) :
    Calls Try.prog 117 #[.pointer (some ⟨g, 0, none⟩), .int .i64 p] w fun e w' => e = .returned (.slice none 0 0) ∧ w = w' := by
  rcases hp with hp | hp
  all_goals
    go_enter Try.func117, Try.ntmps117
    go_wp2
    go_ret
    exact ⟨rfl, rfl⟩
end Go.Proofs.Ytgebopmiefgdoaa

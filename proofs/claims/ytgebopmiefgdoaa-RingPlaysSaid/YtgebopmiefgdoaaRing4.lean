/-
  Contract of slices.Reverse at records.
-/
import Derived.Test.YtgebopmiefgdoaaRing3
namespace Go.Proofs.Ytgebopmiefgdoaa
open Go.RowKit
def rec0 : Rec := ⟨0, 0, false, false, false, false, false, false, false⟩
/-- The first k, and the last k, have changed places. -/
def revK (L : List Rec) (n k : Nat) : List Rec := (List.range n).map fun q => if q < k ∨ n - 1 - q < k then L.getD (n - 1 - q) rec0 else L.getD q rec0
theorem revK_len (L : List Rec) (n k : Nat) : (revK L n k).length = n := by simp [revK]
theorem revK_get (L : List Rec) (n k q : Nat) (hq : q < n) : (revK L n k)[q]? = some (if q < k ∨ n - 1 - q < k then L.getD (n - 1 - q) rec0 else L.getD q rec0) := by simp [revK, hq]
theorem revK_zero (L : List Rec) (n : Nat) (h : L.length = n) : revK L n 0 = L := by
  apply List.ext_getElem?
  intro q
  by_cases hq : q < n
  · rw [revK_get L n 0 q hq, if_neg (by omega), List.getElem?_eq_getElem (by omega), List.getD_eq_getElem?_getD, List.getElem?_eq_getElem (by omega)]
    rfl
  · rw [List.getElem?_eq_none (by rw [revK_len]; omega), List.getElem?_eq_none (by omega)]
theorem revK_all (L : List Rec) (n k m : Nat) (h : L.length = n) (hkm : k + m + 1 = n) (hk : m ≤ k) (hk2 : k ≤ m + 1) : revK L n k = L.reverse := by
  apply List.ext_getElem?
  intro q
  by_cases hq : q < n
  · rw [revK_get L n k q hq, List.getElem?_reverse (by omega), h]
    by_cases hc : q < k ∨ n - 1 - q < k
    · rw [if_pos hc, List.getD_eq_getElem?_getD, List.getElem?_eq_getElem (by omega)]
      rfl
    · have : q = n - 1 - q := by omega
      rw [if_neg hc, ← this, List.getD_eq_getElem?_getD, List.getElem?_eq_getElem (by omega)]
      rfl
  · rw [List.getElem?_eq_none (by rw [revK_len]; omega), List.getElem?_eq_none (by rw [List.length_reverse]; omega)]
theorem revK_step (L : List Rec) (n k m : Nat) (hkm : k + m + 1 = n) (hk : k < m) (x y : Rec) (hx : (revK L n k)[k]? = some x) (hy : (revK L n k)[m]? = some y) : revK L n (k + 1) = ((revK L n k).set k y).set m x := by
  apply List.ext_getElem?
  intro q
  by_cases hq : q < n
  · rw [List.getElem?_set, List.length_set, revK_len, List.getElem?_set, revK_len, revK_get L n (k + 1) q hq, revK_get L n k q hq]
    rw [revK_get L n k k (by omega), if_neg (by omega)] at hx
    rw [revK_get L n k m (by omega), if_neg (by omega)] at hy
    obtain rfl := Option.some.inj hx
    obtain rfl := Option.some.inj hy
    by_cases h1 : m = q
    · subst h1
      rw [if_pos rfl, if_pos (by omega), if_pos (by omega), show n - 1 - m = k by omega]
    · rw [if_neg h1]
      by_cases h2 : k = q
      · subst h2
        rw [if_pos rfl, if_pos (by omega), if_pos (by omega), show n - 1 - k = m by omega]
      · rw [if_neg h2]
        by_cases hc : q < k ∨ n - 1 - q < k
        · rw [if_pos hc, if_pos (by omega)]
        · rw [if_neg hc, if_neg (by omega)]
  · rw [List.getElem?_eq_none (by rw [revK_len]; omega), List.getElem?_eq_none (by rw [List.length_set, List.length_set, revK_len]; omega)]
set_option maxRecDepth 100000 in
set_option maxHeartbeats 8000000 in
theorem Reverse_any {B n c : Nat} {A : Option Addr} (L : List Rec) (w : World) (h : w.ownsRow B 64 9 (.slice A n c) n (recsV L)) (hL : L.length = n) (hn : n ≤ 1048576) :
    Calls Try.prog 50 #[.slice A n c] w fun e w' => e = .returned (.tuple #[]) ∧ w'.ownsRow B 64 9 (.slice A n c) n (recsV L.reverse) ∧ w.grownBy w' (Value.slice A n c).ownBlock := by
  by_cases hn0 : n = 0
  · subst hn0
    obtain rfl := List.eq_nil_of_length_eq_zero hL
    go_enter Try.func50, Try.ntmps50
    go_wp2
    refine wp_loop_rounds 1 ?_
    rw [rounds_succ]
    go_wp2
    go_end0
    exact ⟨rfl, h, World.grownBy.refl _ _⟩
  · have hn1 : ((n : Int) - 1) = ((n - 1 : Nat) : Int) := by omega
    have HL := Lib.hid hL
    have HN1 := Lib.hid hn1
    clear hL hn1
    go_enter Try.func50, Try.ntmps50
    go_wp2
    go_loopw [2, 3] (fun i j wr => ∃ k m : Nat, k + m + 1 = n ∧ k ≤ m + 1 ∧ i = .int .i64 (k : Int) ∧ j = .int .i64 (m : Int) ∧ wr.ownsRow B 64 9 (.slice A n c) n (recsV (revK L n k)) ∧ w.grownBy wr (Value.slice A n c).ownBlock) (fun _ j _ => (intOf j).toNat)
    case atStart => exact ⟨0, n - 1, by omega, by omega, rfl, by rw [HN1.out], by rw [revK_zero L n HL.out]; exact h, World.grownBy.refl _ _⟩
    case round =>
      obtain ⟨k, m, hkm, hk2, rfl, rfl, hown, hg⟩ := hrel
      by_cases hlt : k < m
      · have hlt' : (k : Int) < (m : Int) := by omega
        have hmn : (m : Int) < (n : Int) := by omega
        have hkn : (k : Int) < (n : Int) := by omega
        have hk0 : (0 : Int) ≤ (k : Int) := by omega
        have hm0 : (0 : Int) ≤ (m : Int) := by omega
        obtain ⟨⟨x0, x1, x2, x3, x4, x5, x6, x7, x8⟩, hx⟩ : ∃ x, (revK L n k)[k]? = some x := ⟨_, revK_get L n k k (by omega)⟩
        obtain ⟨⟨y0, y1, y2, y3, y4, y5, y6, y7, y8⟩, hy⟩ : ∃ y, (revK L n k)[m]? = some y := ⟨_, revK_get L n k m (by omega)⟩
        have HST := Lib.hid (revK_step L n k m hkm hlt _ _ hx hy)
        have HG := Lib.hid hg
        have hrl := (own_reads hown)
        obtain ⟨A', c', hAc, hrl, _, _⟩ := hrl
        injection hAc with hA1 _ hA3
        subst hA1 hA3
        obtain ⟨ad, hadE, _, p0, p1, p2, p3, p4, p5, p6, p7, p8⟩ := rec_get hrl hx (by omega)
        obtain ⟨ad', hadE', _, r0, r1, r2, r3, r4, r5, r6, r7, r8⟩ := rec_get hrl hy (by omega)
        obtain ⟨b, cap, cur, hv, hBb, hcur, hnc, hcm2, hcs, htk⟩ : ∃ b cap cur, Value.slice A n c = .slice (some ⟨b, 0, none⟩) n cap ∧ B ≤ b ∧ Blk wr b 64 cur ∧ n ≤ cap ∧ cap ≤ maxLen ∧ cur.size = cap * 9 ∧ cur.toList.take (n * 9) = recsV (revK L n k) := by
          rcases hown.2 with ⟨_, h0⟩ | h
          · exact absurd h0 hn0
          · exact h
        injection hv with hv1 hv2 hv3
        subst hv1 hv3
        injection hadE with hadE
        injection hadE' with hadE'
        subst hadE hadE'
        rw [addr_add0] at p0 p1 p2 p3 p4 p5 p6 p7 p8 r0 r1 r2 r3 r4 r5 r6 r7 r8
        dsimp only at p0 p1 p2 p3 p4 p5 p6 p7 p8 r0 r1 r2 r3 r4 r5 r6 r7 r8
        have fb := hcur.frozen
        have hadd : ∀ q, (⟨b, 0, none⟩ : Addr).add (q * 9) = ⟨b, q * 9, none⟩ := fun q => addr_add0 b _
        have hne : k ≠ m := by omega
        have hne2 : m ≠ k := by omega
        have hi0 : ∀ j, j < 9 → ¬ k * 9 + j = m * 9 := fun j hj e => by omega
        have h0j : ∀ j, j < 9 → ¬ k * 9 = m * 9 + j := fun j hj e => by omega
        have hi0' : ∀ j, j < 9 → ¬ m * 9 + j = k * 9 := fun j hj e => by omega
        have h0j' : ∀ j, j < 9 → ¬ m * 9 = k * 9 + j := fun j hj e => by omega
        have HX := Lib.hid hx
        have HY := Lib.hid hy
        have HOWN := Lib.hid hown
        clear hx hy hrl hown hg h
        go_wp2
        go_region
        all_goals
          go_wp2
          have hW := ((((((((((((((((((hcur.set_ (k * 9) (.int .u16 y0)).set_ (k * 9 + 1) (.int .u8 y1)).set_ (k * 9 + 2) (.bool y2)).set_ (k * 9 + 3) (.bool y3)).set_ (k * 9 + 4) (.bool y4)).set_ (k * 9 + 5) (.bool y5)).set_ (k * 9 + 6) (.bool y6)).set_ (k * 9 + 7) (.bool y7)).set_ (k * 9 + 8) (.bool y8)).set_ (m * 9) (.int .u16 x0)).set_ (m * 9 + 1) (.int .u8 x1)).set_ (m * 9 + 2) (.bool x2)).set_ (m * 9 + 3) (.bool x3)).set_ (m * 9 + 4) (.bool x4)).set_ (m * 9 + 5) (.bool x5)).set_ (m * 9 + 6) (.bool x6)).set_ (m * 9 + 7) (.bool x7)).set_ (m * 9 + 8) (.bool x8)).drew
          have hs1 := recs_set (revK L n k) k ⟨y0, y1, y2, y3, y4, y5, y6, y7, y8⟩ cur (by rw [revK_len]; omega) (by rw [revK_len]; exact htk)
          have hs2 := recs_set ((revK L n k).set k ⟨y0, y1, y2, y3, y4, y5, y6, y7, y8⟩) m ⟨x0, x1, x2, x3, x4, x5, x6, x7, x8⟩ _ (by rw [List.length_set, revK_len]; omega) hs1
          rw [← HST.out, revK_len] at hs2
          refine ⟨⟨k + 1, m - 1, by omega, by omega, by go_num, ?_, ⟨by rw [recsV, flat_length Rec.cells_len, revK_len], .inr ⟨b, _, _, rfl, hBb, hW, hnc, hcm2, by simp only [Array.size_setIfInBounds]; exact hcs, hs2⟩⟩, ?_⟩, ?_⟩
          · rw [show ((m - 1 : Nat) : Int) = (m : Int) - 1 by omega]
          · exact (HG.out).trans (grown_drew _ (grown_set _ (grown_set _ (grown_set _ (grown_set _ (grown_set _ (grown_set _ (grown_set _ (grown_set _ (grown_set _ (grown_set _ (grown_set _ (grown_set _ (grown_set _ (grown_set _ (grown_set _ (grown_set _ (grown_set _ (grown_set _ (World.grownBy.refl _ _) _ _) _ _) _ _) _ _) _ _) _ _) _ _) _ _) _ _) _ _) _ _) _ _) _ _) _ _) _ _) _ _) _ _) _ _))
          · simp [intOf]; omega
      · have hle : (m : Int) ≤ (k : Int) := by omega
        have HR := Lib.hid (revK_all L n k m HL.out hkm (by omega) hk2)
        go_wp2
        go_end0
        exact ⟨rfl, by rw [← HR.out]; exact hown, hg⟩
end Go.Proofs.Ytgebopmiefgdoaa

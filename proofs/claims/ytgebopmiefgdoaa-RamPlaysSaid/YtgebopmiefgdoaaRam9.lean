/-
  Contract of ram.Copy.
-/
import Derived.Test.YtgebopmiefgdoaaRam8
import Derived.Deep.RegionWith
namespace Go.Proofs.Ytgebopmiefgdoaa
open Go.RowKit
set_option maxRecDepth 100000 in
set_option maxHeartbeats 2000000 in
theorem CloneB_nil (n c : Nat) (w : World) :
    Calls Try.prog 115 #[.slice none n c] w fun e w' => e = .returned (.slice none 0 0) ∧ w = w' := by
  have he : ∀ W : World, (binOp .eql 37 (.slice none n c) (.slice none 0 0)).run Try.prog W = .ok (.bool true) W := fun _ => rfl
  go_enter Try.func115, Try.ntmps115
  go_wp2
  go_ret
  exact ⟨rfl, rfl⟩
theorem RamAt.congr {B g : Nat} {m m' : Nat → UInt8} {rom : Int} {pb : Nat → Option Nat} {cs : Array Value} {w : World} (h : RamAt B g m rom pb cs w) (hm : ∀ a, a < 65536 → m' a = m a) : RamAt B g m' rom pb cs w :=
  ⟨h.hB, h.blk, h.size, h.romc, h.cell, fun i hi hp j hj => (hm _ (by omega)).trans (h.nilp i hi hp j hj), fun i b hi hp => by
    obtain ⟨⟨ps, h1, h4⟩, h2, h3⟩ := h.page i b hi hp
    exact ⟨⟨ps, h1, fun j hj => by rw [hm _ (by omega)]; exact h4 j hj⟩, h2, h3⟩, h.inj⟩
theorem RamAt.putNil {B g : Nat} {m m' : Nat → UInt8} {rom : Int} {pb : Nat → Option Nat} {cs : Array Value} {w : World} (h : RamAt B g m rom pb cs w) (k : Nat) (hk : k < 256) (hp : pb k = none)
    (hm : ∀ a, a < 65536 → m' a = m a) : RamAt B g m' rom pb (cs.setIfInBounds k (.slice none 0 0)) (w.setCell ⟨g, k, none⟩ (.slice none 0 0)) := by
  refine RamAt.congr ⟨h.hB, h.blk.set_ k _, by rw [Array.size_setIfInBounds]; exact h.size, ?_, fun i hi => ?_, h.nilp, fun i b hi hpi => ?_, h.inj⟩ hm
  · rw [Array.getElem?_setIfInBounds_ne (by omega)]
    exact h.romc
  · by_cases hik : i = k
    · subst hik
      exact ⟨256, Nat.le_refl _, by rw [Array.getElem?_setIfInBounds_self_of_lt (by rw [h.size]; omega), hp]; rfl⟩
    · rw [Array.getElem?_setIfInBounds_ne (fun e => hik e.symm)]
      exact h.cell i hi
  · obtain ⟨⟨ps, h1, h4⟩, h2, h3⟩ := h.page i b hi hpi
    exact ⟨⟨ps, h1.far h3 _, h4⟩, h2, h3⟩
theorem RamAt.putPage {B g : Nat} {m m' : Nat → UInt8} {rom : Int} {pb : Nat → Option Nat} {cs : Array Value} {w : World} (h : RamAt B g m rom pb cs w) (k : Nat) (hk : k < 256) (hp : pb k = none)
    (hm : ∀ a, a < 65536 → a / 256 ≠ k → m' a = m a) (b c : Nat) (ps : Array Value) (hb : Blk w b 5 ps) (hBb : B ≤ b) (hbg : b ≠ g) (hnew : ∀ i, i < 256 → pb i ≠ some b) (hc : 256 ≤ c)
    (hps : ∀ j, j < 256 → ps[j]? = some (.int .u8 ((m' (256 * k + j)).toNat : Int))) :
    RamAt B g m' rom (fun i => if i = k then some b else pb i) (cs.setIfInBounds k (pv c (some b))) (w.setCell ⟨g, k, none⟩ (pv c (some b))) := by
  refine ⟨h.hB, h.blk.set_ k _, by rw [Array.size_setIfInBounds]; exact h.size, ?_, fun i hi => ?_, fun i hi hpi j hj => ?_, fun i b' hi hpi => ?_, fun i l b' hi hl hpi hpl => ?_⟩
  · rw [Array.getElem?_setIfInBounds_ne (by omega)]
    exact h.romc
  · by_cases hik : i = k
    · subst hik
      exact ⟨c, hc, by rw [Array.getElem?_setIfInBounds_self_of_lt (by rw [h.size]; omega), if_pos rfl]⟩
    · rw [Array.getElem?_setIfInBounds_ne (fun e => hik e.symm), if_neg hik]
      exact h.cell i hi
  · by_cases hik : i = k
    · rw [if_pos hik] at hpi; cases hpi
    · rw [if_neg hik] at hpi
      rw [hm _ (by omega) (by omega)]
      exact h.nilp i hi hpi j hj
  · by_cases hik : i = k
    · subst hik
      rw [if_pos rfl] at hpi
      obtain rfl := Option.some.inj hpi
      exact ⟨⟨ps, hb.far hbg _, hps⟩, hBb, hbg⟩
    · rw [if_neg hik] at hpi
      obtain ⟨⟨ps', h1, h4⟩, h2, h3⟩ := h.page i b' hi hpi
      exact ⟨⟨ps', h1.far h3 _, fun j hj => by rw [hm _ (by omega) (by omega)]; exact h4 j hj⟩, h2, h3⟩
  · by_cases hik : i = k
    · by_cases hlk : l = k
      · rw [hik, hlk]
      · rw [if_pos hik] at hpi
        rw [if_neg hlk] at hpl
        obtain rfl := Option.some.inj hpi
        exact absurd hpl (hnew l hl)
    · by_cases hlk : l = k
      · rw [if_neg hik] at hpi
        rw [if_pos hlk] at hpl
        obtain rfl := Option.some.inj hpl
        exact absurd hpi (hnew i hi)
      · rw [if_neg hik] at hpi
        rw [if_neg hlk] at hpl
        exact h.inj i l b' hi hl hpi hpl
theorem cutK_nil (k : Nat) (m : Nat → UInt8) (hz : ∀ j, j < 256 → m (256 * k + j) = 0) (a : Nat) : cutK (k + 1) m a = cutK k m a := by
  unfold cutK
  by_cases h1 : a < 256 * k
  · rw [if_pos h1, if_pos (by omega)]
  · by_cases h2 : a < 256 * (k + 1)
    · rw [if_neg h1, if_pos h2]
      have := hz (a - 256 * k) (by omega)
      rwa [show 256 * k + (a - 256 * k) = a by omega] at this
    · rw [if_neg h1, if_neg h2]
theorem cutK_other (k : Nat) (m : Nat → UInt8) (a : Nat) (h : a / 256 ≠ k) : cutK (k + 1) m a = cutK k m a := by
  unfold cutK
  by_cases h1 : a < 256 * k
  · rw [if_pos h1, if_pos (by omega)]
  · rw [if_neg h1, if_neg (by omega)]
set_option maxRecDepth 100000 in
set_option maxHeartbeats 4000000 in
theorem Copy_any {B g : Nat} {m : Nat → UInt8} {rom : Int} {pb : Nat → Option Nat} {cs : Array Value} (w : World) (h : RamAt B g m rom pb cs w) :
    Calls Try.prog 89 #[.pointer (some ⟨g, 0, none⟩)] w fun e w' => e = .returned (.pointer (some ⟨w.heap.size, 0, none⟩)) ∧ (∃ pb' cs', RamAt w.heap.size w.heap.size m rom pb' cs' w') ∧ Below w.heap.size w w' := by
  have cr := (h.blk.cell 256).trans h.romc
  have hg := h.blk.lt
  have h1 : RamAt B g m rom pb cs (w.alloc (.cells (Try.zeroCells160.setIfInBounds 256 (Value.int .i64 rom)) 160)) := h.below (below_alloc (Below.refl _ _) _)
  obtain ⟨L, hL, hLi, hLc⟩ := h1.arr
  have hsz : (Try.prog.info? 158).map (·.size) = some L.length := by rw [hL]; kernel_rfl
  have HIX : Hid (∀ (i : Nat), i < 256 → ∃ c, 256 ≤ c ∧ ∀ W : World, (Instr.index 158 (.agg L.toArray) (.int .i64 (i : Int))).run Try.prog W = .ok (pv c (pb i)) W) := by
    show ∀ (i : Nat), i < 256 → ∃ c, 256 ≤ c ∧ ∀ W : World, (Instr.index 158 (.agg L.toArray) (.int .i64 (i : Int))).run Try.prog W = .ok (pv c (pb i)) W
    intro i hi
    obtain ⟨c, hc, he⟩ := hLi i hi
    exact ⟨c, hc, fun W => run_index_arr W _ _ _ i 256 _ Try.underlying158 _ Try.underlying37 rfl (by kernel_rfl) hi he⟩
  have HNEW := Lib.hid (RamAt.new rom w)
  have HH := Lib.hid h
  clear h h1 hLi
  go_enter Try.func89, Try.ntmps89
  go_wp2_with (with_reducible refine wpList_load_at rfl 158 (.tmp 14) rfl ⟨g, 0, none⟩ rfl L _ hLc Try.underlying158 rfl hsz ?_)
  clear hLc hsz hL cr
  generalize L.toArray = LA at *
  rw [zero_fresh]
  go_loopw [4, 5, 16] (fun _ _ i wr => ∃ k pb' cs', k ≤ 256 ∧ i = .int .i64 ((k : Nat) : Int) ∧ RamAt w.heap.size w.heap.size (cutK k m) rom pb' cs' wr ∧ (∀ i, k ≤ i → pb' i = none) ∧ Below w.heap.size w wr) (fun _ _ i _ => 256 - (intOf i).toNat)
  case atStart => exact ⟨0, _, _, by omega, rfl, HNEW.out.congr fun a _ => by simp [cutK], fun _ _ => rfl, below_alloc (Below.refl _ _) _⟩
  case round =>
    obtain ⟨k, pb1, cs1, hk, rfl, hR, hnone, hbl⟩ := hrel
    by_cases hlt : k < 256
    · obtain ⟨cp, hcp, hixW⟩ := HIX.out k hlt
      have hix := hixW wr
      have hlt' : (k : Int) < 256 := by omega
      obtain ⟨c0, _, hc0⟩ := hR.cell k hlt
      have cc := (hR.blk.cell k).trans hc0
      have ff := hR.blk.frozen k
      have HR := Lib.hid hR
      have HNONE := Lib.hid hnone
      have hlg := hR.blk.lt
      clear hixW hc0 hR hnone
      cases hp : pb k with
      | none =>
        rw [hp] at hix
        replace hix : (Instr.index 158 (.agg LA) (.int .i64 (k : Int))).run Try.prog wr = .ok (.slice none 0 0) wr := hix
        have hz := HH.out.nilp k hlt hp
        have HN := Lib.hid (HR.out.putNil (m' := cutK (k + 1) m) k hlt (HNONE.out k (Nat.le_refl _)) fun a _ => cutK_nil k m hz a)
        clear hz hp
        go_wp2_with fail
        go_region_with ((go_at_call 115; refine (CloneB_nil _ _ _).mono ?_; rintro e w1 ⟨rfl, rfl⟩))
        all_goals
          go_wp2
          refine ⟨⟨k + 1, _, _, by omega, by go_num, HN.out.below (below_drewN (Below.refl _ _) 1), fun i hi => HNONE.out i (by omega), below_drewN (hbl.setCell (Nat.le_refl _) _) 1⟩, by simp [intOf]; omega⟩
      | some b =>
        rw [hp] at hix
        replace hix : (Instr.index 158 (.agg LA) (.int .i64 (k : Int))).run Try.prog wr = .ok (.slice (some ⟨b, 0, none⟩) 256 cp) wr := hix
        have hrd := (HH.out.below hbl).pageReads k hlt
        rw [hp] at hrd
        replace hrd : Reads wr wr.heap.size 1 (some ⟨b, 0, none⟩) 256 (bytesV ((List.range 256).map fun j => m (256 * k + j))) := hrd
        have HCL := Lib.hid (CloneB_any _ (some ⟨b, 0, none⟩) 256 cp _ wr.drew (hrd.below (below_drewN (Below.refl _ wr) 1)) (Nat.le_refl _) (by omega))
        clear hrd hp
        go_wp2_with fail
        go_region_with ((go_at_call 115; refine HCL.out.mono ?_; rintro e w1 ⟨v1, rfl, hown, hb1⟩; obtain ⟨b1, c1, ps, rfl, hc1, hbb, hblk, hps⟩ := own_page hown; have cc1 := (hb1.cell (p := ⟨w.heap.size, k, none⟩) hlg).trans cc; have ff1 := (hb1.frozen (p := ⟨w.heap.size, k, none⟩) hlg).trans ff; have HBLK := Lib.hid hblk; have HPS := Lib.hid hps; clear hown hblk hps))
        all_goals
          go_wp2
          have hnone := HNONE.out k (Nat.le_refl _)
          have hbl1 := (below_drewN hbl 1).trans (hb1.mono (w := wr.drew) hbl.size)
          have hR1 := HR.out.below ((below_drewN (Below.refl _ wr) 1).trans hb1)
          have hnew : ∀ i, i < 256 → pb1 i ≠ some b1 := fun i hi e => by
            obtain ⟨⟨_, hq, _⟩, _, _⟩ := HR.out.page i b1 hi e
            have := hq.lt
            have : wr.heap.size ≤ b1 := hbb
            omega
          have hbb' : wr.heap.size ≤ b1 := hbb
          have hN := hR1.putPage (m' := cutK (k + 1) m) k hlt hnone (fun a _ ha => cutK_other k m a ha) b1 c1 ps HBLK.out (by omega) (by omega) hnew hc1 (fun j hj => by
            rw [HPS.out j hj]
            simp only [cutK]
            rw [if_pos (by omega)])
          refine ⟨⟨k + 1, _, _, by omega, by go_num, hN, fun i hi => ?_, hbl1.setCell (Nat.le_refl _) _⟩, by simp [intOf]; omega⟩
          rw [if_neg (by omega)]
          exact HNONE.out i (by omega)
    · obtain rfl : k = 256 := by omega
      have HN := Lib.hid (hR.congr (m' := m) fun a ha => by simp only [cutK]; rw [if_pos (by omega)])
      clear hR hnone
      go_wp2
      go_ret
      exact ⟨rfl, ⟨_, _, HN.out⟩, hbl⟩
end Go.Proofs.Ytgebopmiefgdoaa

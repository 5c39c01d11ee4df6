/-
  Contract of ram.Poke.
-/
import Derived.Test.YtgebopmiefgdoaaRam
namespace Go.Proofs.Ytgebopmiefgdoaa
open Go.RowKit
def upd (m : Nat → UInt8) (a : Nat) (b : UInt8) : Nat → UInt8 := fun k => if k = a then b else m k
theorem pageL_upd (m : Nat → UInt8) (i j : Nat) (b : UInt8) (hj : j < 256) : (pageL m i).toArray.setIfInBounds j (.int .u8 (b.toNat : Int)) = (pageL (upd m (256 * i + j) b) i).toArray := by
  apply Array.ext'
  simp only [Array.toList_setIfInBounds]
  apply List.ext_getElem?
  intro k
  rw [List.getElem?_set]
  simp only [pageL, List.length_map, List.length_range, List.getElem?_map]
  by_cases hk : k < 256
  · by_cases hjk : j = k
    · subst hjk
      simp [upd, hk]
    · have hkj : k ≠ j := fun e => hjk e.symm
      simp [upd, hk, hjk, hkj]
  · have h1 : j ≠ k := by omega
    simp [h1, hk]
theorem pageL_other (m : Nat → UInt8) (i j k : Nat) (b : UInt8) (hj : j < 256) (hk : k ≠ i) : pageL (upd m (256 * i + j) b) k = pageL m k := by
  unfold pageL
  apply List.map_congr_left
  intro l hl
  rw [List.mem_range] at hl
  have : 256 * k + l ≠ 256 * i + j := by omega
  simp [upd, this]
/-- Nothing has turned but memory's own blocks. -/
structure OnlyRam (g : Nat) (pb : Nat → Option Nat) (w w' : World) : Prop where
  os : w'.os = w.os
  tape : w'.tape = w.tape
  output : w'.output = w.output
  size : w.heap.size ≤ w'.heap.size
  block : ∀ k, k < w.heap.size → k ≠ g → (∀ i, i < 256 → pb i ≠ some k) → w'.heap[k]? = w.heap[k]?
/-- A byte of a page that is there is turned. -/
theorem RamAt.poke {B g : Nat} {m : Nat → UInt8} {rom : Int} {pb : Nat → Option Nat} {cs : Array Value} {w : World} (h : RamAt B g m rom pb cs w) (i j b : Nat) (x : UInt8) (hi : i < 256) (hj : j < 256) (hb : pb i = some b) :
    RamAt B g (upd m (256 * i + j) x) rom pb cs (w.setCell ⟨b, j, none⟩ (.int .u8 (x.toNat : Int))) := by
  obtain ⟨h1, h2, h3⟩ := h.page i b hi hb
  refine ⟨h.hB, h.blk.far (fun e => h3 e.symm) _, h.size, h.romc, h.cell, fun k hk hp l hl => ?_, fun k c hk hp => ?_, h.inj⟩
  · have hne : k ≠ i := fun e => by rw [e, hb] at hp; cases hp
    have : 256 * k + l ≠ 256 * i + j := by omega
    simp only [upd, if_neg this]
    exact h.nilp k hk hp l hl
  · obtain ⟨⟨ps, g1, g4⟩, g2, g3⟩ := h.page k c hk hp
    by_cases hki : k = i
    · subst hki
      have hbc : c = b := by rw [hp] at hb; exact Option.some.inj hb
      subst hbc
      refine ⟨⟨_, g1.set_ j _, fun l hl => ?_⟩, g2, g3⟩
      have hsz : j < ps.size := (Array.getElem?_eq_some_iff.1 (g4 j hj)).1
      by_cases hlj : l = j
      · subst hlj
        rw [Array.getElem?_setIfInBounds_self_of_lt hsz]
        simp [upd]
      · rw [Array.getElem?_setIfInBounds_ne (fun e => hlj e.symm)]
        have : 256 * k + l ≠ 256 * k + j := by omega
        simp only [upd, if_neg this]
        exact g4 l hl
    · refine ⟨⟨ps, ?_, fun l hl => ?_⟩, g2, g3⟩
      rotate_left
      · have : 256 * k + l ≠ 256 * i + j := by omega
        simp only [upd, if_neg this]
        exact g4 l hl
      refine g1.far (fun e => ?_) _
      subst e
      exact hki (h.inj k i c hk hi hp hb)
set_option maxRecDepth 100000 in
set_option maxHeartbeats 2000000 in
theorem Poke_there {B g : Nat} {m : Nat → UInt8} {rom : Int} {pb : Nat → Option Nat} {cs : Array Value} (i j b : Nat) (x : UInt8) (w : World) (h : RamAt B g m rom pb cs w) (hi : i < 256) (hj : j < 256) (hb : pb i = some b) :
    Calls Try.prog 87 #[.pointer (some ⟨g, 0, none⟩), .int .u16 ((256 * i + j : Nat) : Int), .int .u8 (x.toNat : Int)] w fun e w' => e = .returned (.tuple #[]) ∧ RamAt B g (upd m (256 * i + j) x) rom pb cs w' ∧ OnlyRam g pb w w' ∧ Below B w w' := by
  obtain ⟨cap, hcap, hce⟩ := h.cell i hi
  have c := (h.blk.cell i).trans hce
  clear hce
  rw [hb] at c
  replace c : w.cell? ⟨g, i, none⟩ = some (.slice (some ⟨b, 0, none⟩) 256 cap) := c
  obtain ⟨⟨ps, hpg, hpc⟩, hBb, hbg⟩ := h.page i b hi hb
  have d := (hpg.cell j).trans (hpc j hj)
  clear hpc
  have f := hpg.frozen j
  have HHI := Lib.hid (fun W => High_ij i j W hi hj)
  have HLO := Lib.hid (fun W => Low_ij i j W hi hj)
  have hi0 : (0 : Int) ≤ (i : Int) := by omega
  have hi1 : (i : Int) < 256 := by omega
  have hj0 : (0 : Int) ≤ (j : Int) := by omega
  have hj1 : (j : Int) < 256 := by omega
  have HP := Lib.hid (h.poke i j b x hi hj hb)
  have hnil : ∀ W : World, (binOp .eql 37 (.slice (some ⟨b, 0, none⟩) 256 cap) (.slice none 0 0)).run Try.prog W = .ok (.bool false) W := fun _ => rfl
  have hlt := hpg.lt
  generalize ((256 * i + j : Nat) : Int) = a at *
  generalize (m (256 * i + j)).toNat = y at *
  have hgb : g ≠ b := fun e => hbg e.symm
  clear hpg
  go_enter Try.func87, Try.ntmps87
  go_wp2_with ((go_at_call 24; with_reducible refine (HHI.out _).mono ?_; rintro e w' ⟨rfl, rfl⟩))
  go_region_held3 (fun w' => w'.cell? ⟨g, i, none⟩ = some (.slice (some ⟨b, 0, none⟩) 256 cap)) (first | (go_keep; done)) (first | (go_at_call 25; with_reducible refine (HLO.out _).mono ?_; rintro e w' ⟨rfl, rfl⟩))
  all_goals
    go_wp2
    go_end0
    have hp := HP.out
    refine ⟨rfl, ?_, ?_, ?_⟩
    · first | exact hp | exact hp.below (below_drewN (Below.refl _ _) 1)
    · refine ⟨rfl, rfl, rfl, by simp, fun k hk hkg hkp => ?_⟩
      exact Below.heap_setCell _ _ _ _ (fun e => hkp i hi (by rw [hb, e]))
    · exact below_drewN ((Below.refl B w).setCell hBb _) 1
end Go.Proofs.Ytgebopmiefgdoaa

/-
  Memory in pages: what a block of ram.Ram holds; contracts of Rom, Read.
-/
import Derived.Test.YtgebopmiefgdoaaOwn
import Derived.Test.YtgebopmiefgdoaaBytes
import Derived.Test.YtgebopmiefgdoaaOct
import Derived.Deep.RegionHeld3
import Derived.Lib.Hide
namespace Go.Proofs.Ytgebopmiefgdoaa
open Go.RowKit
def pageL (m : Nat → UInt8) (i : Nat) : List Value := (List.range 256).map fun j => .int .u8 ((m (256 * i + j)).toNat : Int)
def pv (c : Nat) : Option Nat → Value
  | none => .slice none 0 0
  | some b => .slice (some ⟨b, 0, none⟩) 256 c
/-- Block g is memory with the bytes m, of which the end can't be written from rom on; pb: the pages' blocks. -/
structure RamAt (B g : Nat) (m : Nat → UInt8) (rom : Int) (pb : Nat → Option Nat) (cs : Array Value) (w : World) : Prop where
  hB : B ≤ g
  blk : Blk w g 160 cs
  size : cs.size = 257
  romc : cs[256]? = some (.int .i64 rom)
  cell : ∀ i, i < 256 → ∃ c, 256 ≤ c ∧ cs[i]? = some (pv c (pb i))
  nilp : ∀ i, i < 256 → pb i = none → ∀ j, j < 256 → m (256 * i + j) = 0
  page : ∀ i b, i < 256 → pb i = some b → (∃ ps : Array Value, Blk w b 5 ps ∧ ∀ j, j < 256 → ps[j]? = some (.int .u8 ((m (256 * i + j)).toNat : Int))) ∧ B ≤ b ∧ b ≠ g
  inj : ∀ i j b, i < 256 → j < 256 → pb i = some b → pb j = some b → i = j
theorem pageL_get (m : Nat → UInt8) (i j : Nat) (hj : j < 256) : (pageL m i).toArray[j]? = some (.int .u8 ((m (256 * i + j)).toNat : Int)) := by
  simp [pageL, hj]
theorem RamAt.below {B g : Nat} {m : Nat → UInt8} {rom : Int} {pb : Nat → Option Nat} {cs : Array Value} {w w' : World} (h : RamAt B g m rom pb cs w) (hb : Below w.heap.size w w') : RamAt B g m rom pb cs w' :=
  ⟨h.hB, h.blk.below hb h.blk.lt, h.size, h.romc, h.cell, h.nilp, fun i b hi hp => by
    obtain ⟨⟨ps, h1, h4⟩, h2, h3⟩ := h.page i b hi hp
    exact ⟨⟨ps, h1.below hb h1.lt, h4⟩, h2, h3⟩, h.inj⟩
theorem High_ij (i j : Nat) (w : World) (hi : i < 256) (hj : j < 256) :
    Calls Try.prog 24 #[.int .u16 ((256 * i + j : Nat) : Int)] w fun e w' => e = .returned (.int .u8 i) ∧ w = w' := by
  have h := High_any ((256 * i + j : Nat) : Int) w (by omega) (by omega)
  rw [show ((256 * i + j : Nat) : Int) / 256 = (i : Int) by omega] at h
  exact h
theorem Low_ij (i j : Nat) (w : World) (hi : i < 256) (hj : j < 256) :
    Calls Try.prog 25 #[.int .u16 ((256 * i + j : Nat) : Int)] w fun e w' => e = .returned (.int .u8 j) ∧ w = w' := by
  have h := Low_any ((256 * i + j : Nat) : Int) w (by omega) (by omega)
  rw [show ((256 * i + j : Nat) : Int) % 256 = (j : Int) by omega] at h
  exact h
set_option maxRecDepth 100000 in
set_option maxHeartbeats 2000000 in
theorem RRom_any {B g : Nat} {m : Nat → UInt8} {rom : Int} {pb : Nat → Option Nat} {cs : Array Value} (w : World) (h : RamAt B g m rom pb cs w) :
    Calls Try.prog 118 #[.pointer (some ⟨g, 0, none⟩)] w fun e w' => e = .returned (.int .i64 rom) ∧ Below w.heap.size w w' := by
  have c := (h.blk.cell 256).trans h.romc
  go_enter Try.func118, Try.ntmps118
  go_wp2
  go_ret
  exact ⟨rfl, Below.refl _ _⟩
set_option maxRecDepth 100000 in
set_option maxHeartbeats 2000000 in
theorem RamRead_any {B g : Nat} {m : Nat → UInt8} {rom : Int} {pb : Nat → Option Nat} {cs : Array Value} (i j : Nat) (w : World) (h : RamAt B g m rom pb cs w) (hi : i < 256) (hj : j < 256) :
    Calls Try.prog 114 #[.pointer (some ⟨g, 0, none⟩), .int .u16 ((256 * i + j : Nat) : Int)] w fun e w' => e = .returned (.int .u8 ((m (256 * i + j)).toNat : Int)) ∧ Below w.heap.size w w' := by
  obtain ⟨cap, hcap, hce⟩ := h.cell i hi
  have c := (h.blk.cell i).trans hce
  clear hce
  have HHI := Lib.hid (fun W => High_ij i j W hi hj)
  have HLO := Lib.hid (fun W => Low_ij i j W hi hj)
  have hi0 : (0 : Int) ≤ (i : Int) := by omega
  have hi1 : (i : Int) < 256 := by omega
  have hj0 : (0 : Int) ≤ (j : Int) := by omega
  have hj1 : (j : Int) < 256 := by omega
  generalize hA : ((256 * i + j : Nat) : Int) = a at *
  cases hp : pb i with
  | none =>
    rw [hp] at c
    have hz : Hid ((m (256 * i + j)).toNat = 0) := by
      show (m (256 * i + j)).toNat = 0
      rw [h.nilp i hi hp j hj]
      rfl
    replace c : w.cell? ⟨g, i, none⟩ = some (.slice none 0 0) := c
    clear hA
    have hnil : ∀ W : World, (binOp .eql 37 (.slice none 0 0) (.slice none 0 0)).run Try.prog W = .ok (.bool true) W := fun _ => rfl
    go_enter Try.func114, Try.ntmps114
    go_wp2_with fail
    go_quiet ((go_at_call 24; with_reducible refine (HHI.out _).mono ?_; rintro e w' ⟨rfl, rfl⟩; exact ⟨rfl, _, rfl⟩))
    go_wp2
    go_ret
    rw [hz.out]
    exact ⟨rfl, below_drewN (Below.refl _ _) _⟩
  | some b =>
    rw [hp] at c
    replace c : w.cell? ⟨g, i, none⟩ = some (.slice (some ⟨b, 0, none⟩) 256 cap) := c
    obtain ⟨⟨ps, hpg, hpc⟩, _, _⟩ := h.page i b hi hp
    have d := (hpg.cell j).trans (hpc j hj)
    clear hpc
    generalize (m (256 * i + j)).toNat = x at *
    clear hA hpg
    have hnil : ∀ W : World, (binOp .eql 37 (.slice (some ⟨b, 0, none⟩) 256 cap) (.slice none 0 0)).run Try.prog W = .ok (.bool false) W := fun _ => rfl
    go_enter Try.func114, Try.ntmps114
    go_wp2_with fail
    go_quiet ((go_at_call 24; with_reducible refine (HHI.out _).mono ?_; rintro e w' ⟨rfl, rfl⟩; exact ⟨rfl, _, rfl⟩))
    go_wp2_with ((go_at_call 25; with_reducible refine (HLO.out _).mono ?_; rintro e w' ⟨rfl, rfl⟩))
    go_ret
    exact ⟨rfl, below_drewN (Below.refl _ _) _⟩
end Go.Proofs.Ytgebopmiefgdoaa

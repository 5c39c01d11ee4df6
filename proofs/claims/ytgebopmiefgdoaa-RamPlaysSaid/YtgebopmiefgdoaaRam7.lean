/-
  Contract of ram.New.
-/
import Derived.Test.YtgebopmiefgdoaaRam6
import Derived.Great.BuildSlice
namespace Go.Proofs.Ytgebopmiefgdoaa
open Go.RowKit
def freshCells (rom : Int) : Array Value := (List.replicate 256 (Value.slice none 0 0) ++ [Value.int .i64 rom]).toArray
theorem freshCells_at (rom : Int) (i : Nat) (hi : i < 256) : (freshCells rom)[i]? = some (.slice none 0 0) := by
  simp [freshCells, List.getElem?_append, hi, -List.reduceReplicate]
theorem freshCells_rom (rom : Int) : (freshCells rom)[256]? = some (.int .i64 rom) := by
  simp [freshCells, -List.reduceReplicate]
theorem freshCells_size (rom : Int) : (freshCells rom).size = 257 := by simp [freshCells, -List.reduceReplicate]
theorem zero_fresh (rom : Int) : Try.zeroCells160.setIfInBounds 256 (Value.int .i64 rom) = freshCells rom := by kernel_rfl
theorem RamAt.new (rom : Int) (w : World) : RamAt w.heap.size w.heap.size (fun _ => 0) rom (fun _ => none) (freshCells rom) (w.alloc (.cells (freshCells rom) 160)) :=
  ⟨Nat.le_refl _, Blk.new w _ _, freshCells_size rom, freshCells_rom rom, fun i hi => ⟨256, Nat.le_refl _, freshCells_at rom i hi⟩, fun _ _ _ _ _ => rfl, fun _ _ _ e => (by cases e), fun _ _ _ _ _ e => (by cases e)⟩
set_option maxRecDepth 100000 in
set_option maxHeartbeats 4000000 in
/-- New memory, the bytes of which fit. -/
theorem New_any (l : List UInt8) (A : Option Addr) (n c : Nat) (rom : Int) (w : World) (hr : Reads w w.heap.size 1 A n (bytesV l)) (hn : n ≤ 65536) (h0 : 0 ≤ rom) (h1 : rom ≤ 65536) :
    Calls Try.prog 85 #[.slice A n c, .int .i64 rom] w fun e w' => e = .returned (.tuple #[.pointer (some ⟨w.heap.size, 0, none⟩), .int .i64 0]) ∧ (∃ pb cs, RamAt w.heap.size w.heap.size (updL (fun _ => 0) 0 l) rom pb cs w') ∧ Below w.heap.size w w' := by
  have hln : l.length = n := by simpa [bytesV] using hr.1
  have hW := RamAt.new rom w
  have hL := Load_any 0 l A n c (w.alloc (.cells (freshCells rom) 160)) hW (by simp) (hr.below (below_alloc (Below.refl _ _) _)) (by omega)
  rw [show ((0 : Nat) : Int) = 0 from rfl, ← zero_fresh] at hL
  have HL := Lib.hid hL
  clear hL hW hr
  go_enter Try.func85, Try.ntmps85
  go_wp2_with fail
  refine HL.out.mono ?_
  rintro e w1 ⟨rfl, hst⟩
  go_wp2
  go_ret2
  obtain ⟨pb, cs, hR, _⟩ := hst.ram
  exact ⟨rfl, ⟨pb, cs, hR⟩, (below_alloc (Below.refl _ _) _).trans hst.below⟩
set_option maxRecDepth 100000 in
set_option maxHeartbeats 4000000 in
/-- There may be no such end. -/
theorem New_arg (A : Option Addr) (n c : Nat) (rom : Int) (w : World) (h : rom < 0 ∨ 65536 < rom) :
    Calls Try.prog 85 #[.slice A n c, .int .i64 rom] w fun e w' => e = .returned (.tuple #[.pointer none, .int .i64 10]) ∧ w = w' := by
  rcases h with h | h
  all_goals
    go_enter Try.func85, Try.ntmps85
    go_wp2
    go_ret2
    exact ⟨rfl, rfl⟩
set_option maxRecDepth 100000 in
set_option maxHeartbeats 4000000 in
/-- Bytes that do not fit. -/
theorem Load_bad (g : Nat) (a : Int) (A : Option Addr) (n c : Nat) (w : World) (h : a < 0 ∨ 65536 < a ∨ (0 ≤ a ∧ a ≤ 65536 ∧ 65536 - a < (n : Int))) (_hn : n ≤ 9223372036854775807) :
    Calls Try.prog 88 #[.pointer (some ⟨g, 0, none⟩), .int .i64 a, .slice A n c] w fun e w' => e = .returned (.int .i64 11) ∧ w = w' := by
  rcases h with h | h | ⟨h1, h2, h⟩
  all_goals
    go_enter Try.func88, Try.ntmps88
    go_wp2
    go_ret
    exact ⟨rfl, rfl⟩
set_option maxRecDepth 100000 in
set_option maxHeartbeats 4000000 in
theorem New_size (A : Option Addr) (n c : Nat) (rom : Int) (w : World) (hn : 65536 < n) (hn2 : n ≤ 9223372036854775807) (h0 : 0 ≤ rom) (h1 : rom ≤ 65536) :
    Calls Try.prog 85 #[.slice A n c, .int .i64 rom] w fun e w' => e = .returned (.tuple #[.pointer none, .int .i64 12]) ∧ Below w.heap.size w w' := by
  have HL := Lib.hid (Load_bad w.heap.size 0 A n c (w.alloc (.cells (Try.zeroCells160.setIfInBounds 256 (Value.int .i64 rom)) 160)) (.inr (.inr ⟨by omega, by omega, by omega⟩)) hn2)
  go_enter Try.func85, Try.ntmps85
  go_wp2_with fail
  refine HL.out.mono ?_
  rintro e w1 ⟨rfl, rfl⟩
  go_wp2
  go_ret2
  exact ⟨rfl, below_alloc (Below.refl _ _) _⟩
end Go.Proofs.Ytgebopmiefgdoaa

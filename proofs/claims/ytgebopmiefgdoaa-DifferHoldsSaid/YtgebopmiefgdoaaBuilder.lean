/-
  strings.Builder at this program: the shelf's contracts in this proof's words.
-/
import Derived.Test.YtgebopmiefgdoaaOwn
import Derived.Test.YtgebopmiefgdoaaBytes
import Derived.Test.YtgebopmiefgdoaaShelf
namespace Go.Proofs.Ytgebopmiefgdoaa
open Go.RowKit
abbrev IsB (B b : Nat) (l : List UInt8) (w : World) : Prop := Lib.IsBuilder 167 5 B b (bytesV l) w
theorem IsB.below {B b : Nat} {l : List UInt8} {w w' : World} (h : IsB B b l w) (hb : Below w.heap.size w w') : IsB B b l w' := by
  rcases h with h | h
  · have hlt := h.lt
    obtain ⟨hB, v, hblk, hown, hne⟩ := h
    exact .inl ⟨hB, v, (hb.block b hlt).trans hblk, own_below hown hb, hne⟩
  · have hlt := h.lt
    obtain ⟨hB, v, hblk, hown, hne⟩ := h
    exact .inr ⟨hB, v, (hb.block b hlt).trans hblk, own_below hown hb, hne⟩
theorem IsB.fresh (w : World) : IsB w.heap.size w.heap.size [] (w.alloc (.cells #[.pointer none, .slice none 0 0] 167)) := Lib.fresh_isBuilder _ _ w
theorem IsB.lt {B b : Nat} {l : List UInt8} {w : World} (h : IsB B b l w) : b < w.heap.size := by
  rcases h with h | h <;> exact h.lt
theorem WByte (B b : Nat) (l : List UInt8) (c : UInt8) (w : World) (h : IsB B b l w) (hlen : l.length + 1 ≤ 140737488355328) (hBw : B ≤ w.heap.size) :
    Calls Try.prog 123 #[.pointer (some ⟨b, 0, none⟩), .int .u8 (c.toNat : Int)] w fun e w' => e = .returned .nilIface ∧ IsB B b (l ++ [c]) w' ∧ Below B w w' := by
  refine (Any.Builder_WriteByte Try.lays167 Try.Builder_Extra_167 B b (bytesV l) (c.toNat : Int) w h (by rw [bytesV_length]; exact hlen) hBw).mono ?_
  rintro e w' ⟨rfl, h1, h2⟩
  exact ⟨rfl, .inr (by rw [bytesV_append]; exact h1), h2⟩
theorem WString (B b : Nat) (l s : List UInt8) (w : World) (h : IsB B b l w) (hlen : l.length + s.length ≤ 140737488355328) (hBw : B ≤ w.heap.size) :
    Calls Try.prog 122 #[.pointer (some ⟨b, 0, none⟩), .string ⟨s.toArray⟩] w fun e w' => (∃ v, e = .returned v) ∧ IsB B b (l ++ s) w' ∧ Below B w w' := by
  have hsz : (ByteArray.mk s.toArray).size = s.length := by simp [ByteArray.size_mk']
  refine (Any.Builder_WriteString { Try.lays156 with } Try.Builder_Extra_156 B b (bytesV l) ⟨s.toArray⟩ w h (by rw [bytesV_length, hsz]; exact hlen) hBw).mono ?_
  rintro e w' ⟨rfl, h1, h2⟩
  exact ⟨⟨_, rfl⟩, .inr (by rw [bytesV_append]; exact h1), h2⟩
theorem BString (B b : Nat) (l : List UInt8) (w : World) (h : IsB B b l w) (hBw : B ≤ w.heap.size) :
    Calls Try.prog 124 #[.pointer (some ⟨b, 0, none⟩)] w fun e w' => e = .returned (.string ⟨l.toArray⟩) ∧ Below B w w' :=
  Try.Builder_String_any B b l w h hBw
end Go.Proofs.Ytgebopmiefgdoaa

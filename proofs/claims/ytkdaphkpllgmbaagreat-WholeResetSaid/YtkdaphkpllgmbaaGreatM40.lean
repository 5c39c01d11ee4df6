/-
  The law WholeReset's walk, over its arguments as they come in.
-/
import Derived.Test.YtkdaphkpllgmbaaGreatM39
import Derived.Test.YtkdaphkpllgmbaaGreatM01
namespace Go.Proofs.YtkdaphkpllgmbaaGreat
open Go.RowKit
set_option linter.unusedVariables false
theorem bytesAt {W : World} {s : Sl Int} (g : s.Good W 1 u8Cell u8Good) : ∃ l : List UInt8, Reads W W.heap.size 1 s.a s.n (bytesV l) ∧ l.length = s.n := by
  obtain ⟨l, h1, h2⟩ := bytes_in g.all
  refine ⟨l, ?_, h2.trans g.len⟩
  rw [← h1]
  exact g.reads
def toSp (p : Pins) : Sp.Pins := ⟨p.reset, p.nmi, p.firq, p.irq, p.halt, p.req⟩
theorem pinsAt {w : World} {s : Sl Pins} (g : s.Good w 6 Pins.cells Pins.Good) : PinsIn w.heap.size s.n s.a (s.ys.map toSp) w := fun W hW k p hp => by
  have hk : k < s.ys.length := by
    have := (List.getElem?_eq_some_iff.1 hp).1
    simpa using this
  have hk2 : k < s.n := by rw [← g.len]; exact hk
  obtain ⟨ad, hA, hB, hc⟩ := g.reads.2 (by omega)
  refine ⟨ad, hA, fun j v hj => ?_⟩
  have hy : s.ys[k]? = some s.ys[k] := List.getElem?_eq_getElem hk
  have hpe : p = toSp s.ys[k] := by
    rw [List.getElem?_map, hy] at hp
    exact (Option.some.inj hp).symm
  have hj6 : j < 6 := by
    have := (List.getElem?_eq_some_iff.1 hj).1
    simpa using this
  have hf := flat_get (en := Pins.cells) Pins.cells_len s.ys k j _ hy hj6
  have hv : (Pins.cells s.ys[k])[j]? = some v := by rw [hpe] at hj; exact hj
  rw [add_of_add]
  have hw := hc (k * 6 + j) v (hf.trans hv)
  exact (World.cell?_of_block (by rw [block_of_add]; exact hW.old _ hB hB)).trans hw
theorem WholeReset_walk (w : World) (c : Config) (gc : c.Good) (lw : LWorld) (gl : lw.Good w) (sc : Sl Pins) (gs : sc.Good w 6 Pins.cells Pins.Good) :
    Calls Tryz.prog 4 #[.agg c.cells.toArray, .agg lw.cells.toArray, sc.v] w fun e w' => e = .returned (.bool true) ∧ Below w.heap.size w w' := by
  obtain ⟨lo, h1, _⟩ := bytesAt gl.low
  obtain ⟨hi, h2, _⟩ := bytesAt gl.high
  exact WholeReset_core c.kind c.rom lo hi lw.low.a lw.high.a sc.a lw.low.n lw.low.c lw.high.n lw.high.c sc.n sc.c (sc.ys.map toSp) w gc.kind.1 gc.kind.2 gc.rom.1 gc.rom.2 h1 h2 (by rw [List.length_map]; exact gs.len) (pinsAt gs)
end Go.Proofs.YtkdaphkpllgmbaaGreat

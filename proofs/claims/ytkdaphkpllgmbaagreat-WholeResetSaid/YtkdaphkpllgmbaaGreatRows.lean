/-
  No cell of these rows narrows 'for every input' (looked for: loops, veiled, ifaces, maps, wideKeys, modest, calm, conditions, laid).
  DERIVED. THE GIVEN ROWS OF THIS SEAT. 2 by the template 'for every input the law returns true; each argument reads behind the call as it read before'; 0 by the template 'total and deterministic' (their statements: YtkdaphkpllgmbaaGreatTotals.lean).
  GIVEN WITH THE SEED: the statements are not yours to turn. If you find one false, say at which input.
  Laid BY PROGRAM, IN A SANDBOX (cutbox-rows.mjs): the forced cells as the released guide's own fill.sh prints them over the translation a13a797c49e31737… (all of the seat's roots in one cut). By AI agents, Wed Nov 11 2026. No macro, syntax, notation, axiom, sorry.
-/
import Derived.Test.YtkdaphkpllgmbaaGreatChecked
import GoSem.Claim
import GoSem.ClaimJoined
import GoSem.ClaimMapViews
import Derived.JoinedTies
import Derived.KernelRfl
namespace Go.Proofs.YtkdaphkpllgmbaaGreat
/- THE CELL 'sum', in the pinned program and in every row, IS THE sha256 OF THE DUMP (.gsa) THAT YtkdaphkpllgmbaaGreatProg.lean LOADS. Nothing in Lean hashes anything: it is a label: what it is worth is what the hold of that sum in a sandbox is worth. -/
noncomputable def Tryz.pinned : Pinned := { name := "ytkdaphkpllgmbaagreat", sum := "a13a797c49e317379975119141d2002c86452b0181285d523cddbb35d4c374db", checked := Tryz.checked }
namespace Rows
def none {H : Type} : Left H := { results := [], args := [] }

/-- 'spinettop.WholeInterrupts': WHATEVER THE INPUT: true; the input reads as it did. -/
def wholeInterruptsSpec : ChangeSpec := { name := "wholeInterrupts", fn := fun _ => fun
  | [d1, d2, d3] => { results := [.lit (.bool true)], args := [d1, d2, d3] }
  | _ => none }
def wholeInterruptsRow : OpenClaim := { program := "ytkdaphkpllgmbaagreat", sum := "a13a797c49e317379975119141d2002c86452b0181285d523cddbb35d4c374db", func := "spinet/spinettop.WholeInterrupts", spec := "wholeInterrupts", unfollowed := true, recurses := true, apart := false }
def WholeInterruptsSaid : Prop := wholeInterruptsRow.holds Tryz.pinned (OpenSpec.ofChange wholeInterruptsSpec)

/-- ITS FALSE NEIGHBOUR: 'it returns false'. Refute it at one input. -/
def wholeInterruptsWrong : ChangeSpec := { name := "wholeInterrupts", fn := fun _ => fun
  | [d1, d2, d3] => { results := [.lit (.bool false)], args := [d1, d2, d3] }
  | _ => none }
def WholeInterruptsWrongFalsely : Prop := wholeInterruptsRow.holds Tryz.pinned (OpenSpec.ofChange wholeInterruptsWrong)

/-- 'spinettop.WholeReset': WHATEVER THE INPUT: true; the input reads as it did. -/
def wholeResetSpec : ChangeSpec := { name := "wholeReset", fn := fun _ => fun
  | [d1, d2, d3] => { results := [.lit (.bool true)], args := [d1, d2, d3] }
  | _ => none }
def wholeResetRow : OpenClaim := { program := "ytkdaphkpllgmbaagreat", sum := "a13a797c49e317379975119141d2002c86452b0181285d523cddbb35d4c374db", func := "spinet/spinettop.WholeReset", spec := "wholeReset", unfollowed := true, recurses := true, apart := false }
def WholeResetSaid : Prop := wholeResetRow.holds Tryz.pinned (OpenSpec.ofChange wholeResetSpec)

/-- ITS FALSE NEIGHBOUR: 'it returns false'. Refute it at one input. -/
def wholeResetWrong : ChangeSpec := { name := "wholeReset", fn := fun _ => fun
  | [d1, d2, d3] => { results := [.lit (.bool false)], args := [d1, d2, d3] }
  | _ => none }
def WholeResetWrongFalsely : Prop := wholeResetRow.holds Tryz.pinned (OpenSpec.ofChange wholeResetWrong)

/- THE SECOND FORM. 'bulk': how many values and letters a reading holds, each counted each time it is reached (what is shared counts as often as it is met; a slice's spare places count too). A statement '..UptoSaid' is the law's where the arguments, and the package variables that the reading takes, are together of bulk at most 1048576: NARROWER than '..Said'. Prove '..Said' where nothing that the law and all that it calls make is longer than what came in: it says more and counts as full. Else prove '..UptoSaid'. A law counts once. -/
mutual
def uptoBulk {H : Type} : DataW H → Nat
  | .lit (.string bytes) => bytes.length + 1
  | .lit _ => 1
  | .nil => 1
  | .ptr d => uptoBulk d + 1
  | .slice elems spare => uptoBulkAll elems + uptoBulkAll spare + 1
  | .agg parts => uptoBulkAll parts + 1
  | .iface _ d => uptoBulk d + 1
  | .map entries => uptoBulkEntries entries + 1
  | .held _ => 1
def uptoBulkAll {H : Type} : List (DataW H) → Nat
  | [] => 0
  | d :: r => uptoBulk d + uptoBulkAll r
def uptoBulkEntries {H : Type} : List (Lit × DataW H) → Nat
  | [] => 0
  | x :: r => uptoBulkEntry x + uptoBulkEntries r
def uptoBulkEntry {H : Type} : Lit × DataW H → Nat
  | (.string bytes, d) => bytes.length + uptoBulk d + 1
  | (_, d) => uptoBulk d + 1
 end
def uptoSmall : (H : Type) → List (DataW H) → Bool := fun _ ds => decide (uptoBulkAll ds ≤ 1048576)
def OpenSpec.upto (s : _root_.Go.ChangeSpec) : _root_.Go.OpenSpec := { _root_.Go.OpenSpec.ofChange s with cond := some uptoSmall }

/-- 'spinettop.WholeInterrupts', WHERE WHAT IT READS IS OF BULK AT MOST 1048576: true; the input reads as it did. -/
def wholeInterruptsUptoRow : OpenClaim := { program := "ytkdaphkpllgmbaagreat", sum := "a13a797c49e317379975119141d2002c86452b0181285d523cddbb35d4c374db", func := "spinet/spinettop.WholeInterrupts", spec := "wholeInterrupts", unfollowed := true, recurses := true, apart := false, narrowed := true }
def WholeInterruptsUptoSaid : Prop := wholeInterruptsUptoRow.holds Tryz.pinned (OpenSpec.upto wholeInterruptsSpec)

/-- 'spinettop.WholeReset', WHERE WHAT IT READS IS OF BULK AT MOST 1048576: true; the input reads as it did. -/
def wholeResetUptoRow : OpenClaim := { program := "ytkdaphkpllgmbaagreat", sum := "a13a797c49e317379975119141d2002c86452b0181285d523cddbb35d4c374db", func := "spinet/spinettop.WholeReset", spec := "wholeReset", unfollowed := true, recurses := true, apart := false, narrowed := true }
def WholeResetUptoSaid : Prop := wholeResetUptoRow.holds Tryz.pinned (OpenSpec.upto wholeResetSpec)

end Rows
end Go.Proofs.YtkdaphkpllgmbaaGreat

/-
  No cell of these rows narrows 'for every input' (looked for: loops, veiled, ifaces, maps, wideKeys, modest, calm, conditions, laid).
  DERIVED. THE GIVEN ROWS OF THIS SEAT. 17 by the template 'for every input the law returns true; each argument reads behind the call as it read before'; 0 by the template 'total and deterministic' (their statements: YtgebopmiefgdoaaTotals.lean).
  GIVEN WITH THE SEED: the statements are not yours to turn. If you find one false, say at which input.
  Laid BY PROGRAM, IN A SANDBOX (cutbox-rows.mjs): the forced cells as the released guide's own fill.sh prints them over the translation 20e18af6012b1a14… (all of the seat's roots in one cut). By AI agents, Wed Nov 11 2026. No macro, syntax, notation, axiom, sorry.
-/
import Derived.Test.YtgebopmiefgdoaaChecked
import GoSem.Claim
import GoSem.ClaimJoined
import GoSem.ClaimMapViews
import Derived.JoinedTies
import Derived.KernelRfl
namespace Go.Proofs.Ytgebopmiefgdoaa
/- THE CELL 'sum', in the pinned program and in every row, IS THE sha256 OF THE DUMP (.gsa) THAT YtgebopmiefgdoaaProg.lean LOADS. Nothing in Lean hashes anything: it is a label: what it is worth is what the hold of that sum in a sandbox is worth. -/
noncomputable def Try.pinned : Pinned := { name := "ytgebopmiefgdoaa", sum := "20e18af6012b1a14f3e40ef379ccc167bae469a0baa965b1f5200ee671e0c553", checked := Try.checked }
namespace Rows
def none {H : Type} : Left H := { results := [], args := [] }

/-- 'spinetlaw01.OctetSigns': WHATEVER THE INPUT: true; the input reads as it did. -/
def octetSignsSpec : ChangeSpec := { name := "octetSigns", fn := fun _ => fun
  | [d] => { results := [.lit (.bool true)], args := [d] }
  | _ => none }
def octetSignsRow : OpenClaim := { program := "ytgebopmiefgdoaa", sum := "20e18af6012b1a14f3e40ef379ccc167bae469a0baa965b1f5200ee671e0c553", func := "spinet/spinetlaw01.OctetSigns", spec := "octetSigns", apart := false }
def OctetSignsSaid : Prop := octetSignsRow.holds Try.pinned (OpenSpec.ofChange octetSignsSpec)

/-- ITS FALSE NEIGHBOUR: 'it returns false'. Refute it at one input. -/
def octetSignsWrong : ChangeSpec := { name := "octetSigns", fn := fun _ => fun
  | [d] => { results := [.lit (.bool false)], args := [d] }
  | _ => none }
def OctetSignsWrongFalsely : Prop := octetSignsRow.holds Try.pinned (OpenSpec.ofChange octetSignsWrong)

/-- 'spinetlaw01.OctetWords': WHATEVER THE INPUT: true; the input reads as it did. -/
def octetWordsSpec : ChangeSpec := { name := "octetWords", fn := fun _ => fun
  | [d1, d2, d3] => { results := [.lit (.bool true)], args := [d1, d2, d3] }
  | _ => none }
def octetWordsRow : OpenClaim := { program := "ytgebopmiefgdoaa", sum := "20e18af6012b1a14f3e40ef379ccc167bae469a0baa965b1f5200ee671e0c553", func := "spinet/spinetlaw01.OctetWords", spec := "octetWords", apart := false }
def OctetWordsSaid : Prop := octetWordsRow.holds Try.pinned (OpenSpec.ofChange octetWordsSpec)

/-- ITS FALSE NEIGHBOUR: 'it returns false'. Refute it at one input. -/
def octetWordsWrong : ChangeSpec := { name := "octetWords", fn := fun _ => fun
  | [d1, d2, d3] => { results := [.lit (.bool false)], args := [d1, d2, d3] }
  | _ => none }
def OctetWordsWrongFalsely : Prop := octetWordsRow.holds Try.pinned (OpenSpec.ofChange octetWordsWrong)

/-- 'spinetlaw28.EdgeKept': WHATEVER THE INPUT: true; the input reads as it did. -/
def edgeKeptSpec : ChangeSpec := { name := "edgeKept", fn := fun _ => fun
  | [d1, d2, d3] => { results := [.lit (.bool true)], args := [d1, d2, d3] }
  | _ => none }
def edgeKeptRow : OpenClaim := { program := "ytgebopmiefgdoaa", sum := "20e18af6012b1a14f3e40ef379ccc167bae469a0baa965b1f5200ee671e0c553", func := "spinet/spinetlaw28.EdgeKept", spec := "edgeKept", apart := false }
def EdgeKeptSaid : Prop := edgeKeptRow.holds Try.pinned (OpenSpec.ofChange edgeKeptSpec)

/-- ITS FALSE NEIGHBOUR: 'it returns false'. Refute it at one input. -/
def edgeKeptWrong : ChangeSpec := { name := "edgeKept", fn := fun _ => fun
  | [d1, d2, d3] => { results := [.lit (.bool false)], args := [d1, d2, d3] }
  | _ => none }
def EdgeKeptWrongFalsely : Prop := edgeKeptRow.holds Try.pinned (OpenSpec.ofChange edgeKeptWrong)

/-- 'spinetlaw28.EdgeSteps': WHATEVER THE INPUT: true; the input reads as it did. -/
def edgeStepsSpec : ChangeSpec := { name := "edgeSteps", fn := fun _ => fun
  | [d1, d2] => { results := [.lit (.bool true)], args := [d1, d2] }
  | _ => none }
def edgeStepsRow : OpenClaim := { program := "ytgebopmiefgdoaa", sum := "20e18af6012b1a14f3e40ef379ccc167bae469a0baa965b1f5200ee671e0c553", func := "spinet/spinetlaw28.EdgeSteps", spec := "edgeSteps", apart := false }
def EdgeStepsSaid : Prop := edgeStepsRow.holds Try.pinned (OpenSpec.ofChange edgeStepsSpec)

/-- ITS FALSE NEIGHBOUR: 'it returns false'. Refute it at one input. -/
def edgeStepsWrong : ChangeSpec := { name := "edgeSteps", fn := fun _ => fun
  | [d1, d2] => { results := [.lit (.bool false)], args := [d1, d2] }
  | _ => none }
def EdgeStepsWrongFalsely : Prop := edgeStepsRow.holds Try.pinned (OpenSpec.ofChange edgeStepsWrong)

/-- 'spinetlaw02.DigitPairs': WHATEVER THE INPUT: true; the input reads as it did. -/
def digitPairsSpec : ChangeSpec := { name := "digitPairs", fn := fun _ => fun
  | [d1, d2] => { results := [.lit (.bool true)], args := [d1, d2] }
  | _ => none }
def digitPairsRow : OpenClaim := { program := "ytgebopmiefgdoaa", sum := "20e18af6012b1a14f3e40ef379ccc167bae469a0baa965b1f5200ee671e0c553", func := "spinet/spinetlaw02.DigitPairs", spec := "digitPairs", apart := false }
def DigitPairsSaid : Prop := digitPairsRow.holds Try.pinned (OpenSpec.ofChange digitPairsSpec)

/-- ITS FALSE NEIGHBOUR: 'it returns false'. Refute it at one input. -/
def digitPairsWrong : ChangeSpec := { name := "digitPairs", fn := fun _ => fun
  | [d1, d2] => { results := [.lit (.bool false)], args := [d1, d2] }
  | _ => none }
def DigitPairsWrongFalsely : Prop := digitPairsRow.holds Try.pinned (OpenSpec.ofChange digitPairsWrong)

/-- 'spinetlaw01.OctetRows': WHATEVER THE INPUT: true; the input reads as it did. -/
def octetRowsSpec : ChangeSpec := { name := "octetRows", fn := fun _ => fun
  | [d1, d2] => { results := [.lit (.bool true)], args := [d1, d2] }
  | _ => none }
def octetRowsRow : OpenClaim := { program := "ytgebopmiefgdoaa", sum := "20e18af6012b1a14f3e40ef379ccc167bae469a0baa965b1f5200ee671e0c553", func := "spinet/spinetlaw01.OctetRows", spec := "octetRows", apart := false }
def OctetRowsSaid : Prop := octetRowsRow.holds Try.pinned (OpenSpec.ofChange octetRowsSpec)

/-- ITS FALSE NEIGHBOUR: 'it returns false'. Refute it at one input. -/
def octetRowsWrong : ChangeSpec := { name := "octetRows", fn := fun _ => fun
  | [d1, d2] => { results := [.lit (.bool false)], args := [d1, d2] }
  | _ => none }
def OctetRowsWrongFalsely : Prop := octetRowsRow.holds Try.pinned (OpenSpec.ofChange octetRowsWrong)

/-- 'spinetlaw58.RingPlays': WHATEVER THE INPUT: true; the input reads as it did. -/
def ringPlaysSpec : ChangeSpec := { name := "ringPlays", fn := fun _ => fun
  | [d1, d2, d3] => { results := [.lit (.bool true)], args := [d1, d2, d3] }
  | _ => none }
def ringPlaysRow : OpenClaim := { program := "ytgebopmiefgdoaa", sum := "20e18af6012b1a14f3e40ef379ccc167bae469a0baa965b1f5200ee671e0c553", func := "spinet/spinetlaw58.RingPlays", spec := "ringPlays", unfollowed := true, recurses := true, apart := false }
def RingPlaysSaid : Prop := ringPlaysRow.holds Try.pinned (OpenSpec.ofChange ringPlaysSpec)

/-- ITS FALSE NEIGHBOUR: 'it returns false'. Refute it at one input. -/
def ringPlaysWrong : ChangeSpec := { name := "ringPlays", fn := fun _ => fun
  | [d1, d2, d3] => { results := [.lit (.bool false)], args := [d1, d2, d3] }
  | _ => none }
def RingPlaysWrongFalsely : Prop := ringPlaysRow.holds Try.pinned (OpenSpec.ofChange ringPlaysWrong)

/-- 'spinetlaw02.DigitReads': WHATEVER THE INPUT: true; the input reads as it did. -/
def digitReadsSpec : ChangeSpec := { name := "digitReads", fn := fun _ => fun
  | [d] => { results := [.lit (.bool true)], args := [d] }
  | _ => none }
def digitReadsRow : OpenClaim := { program := "ytgebopmiefgdoaa", sum := "20e18af6012b1a14f3e40ef379ccc167bae469a0baa965b1f5200ee671e0c553", func := "spinet/spinetlaw02.DigitReads", spec := "digitReads", apart := false }
def DigitReadsSaid : Prop := digitReadsRow.holds Try.pinned (OpenSpec.ofChange digitReadsSpec)

/-- ITS FALSE NEIGHBOUR: 'it returns false'. Refute it at one input. -/
def digitReadsWrong : ChangeSpec := { name := "digitReads", fn := fun _ => fun
  | [d] => { results := [.lit (.bool false)], args := [d] }
  | _ => none }
def DigitReadsWrongFalsely : Prop := digitReadsRow.holds Try.pinned (OpenSpec.ofChange digitReadsWrong)

/-- 'spinetlaw21.QueuePlays': WHATEVER THE INPUT: true; the input reads as it did. -/
def queuePlaysSpec : ChangeSpec := { name := "queuePlays", fn := fun _ => fun
  | [d1, d2] => { results := [.lit (.bool true)], args := [d1, d2] }
  | _ => none }
def queuePlaysRow : OpenClaim := { program := "ytgebopmiefgdoaa", sum := "20e18af6012b1a14f3e40ef379ccc167bae469a0baa965b1f5200ee671e0c553", func := "spinet/spinetlaw21.QueuePlays", spec := "queuePlays", apart := false }
def QueuePlaysSaid : Prop := queuePlaysRow.holds Try.pinned (OpenSpec.ofChange queuePlaysSpec)

/-- ITS FALSE NEIGHBOUR: 'it returns false'. Refute it at one input. -/
def queuePlaysWrong : ChangeSpec := { name := "queuePlays", fn := fun _ => fun
  | [d1, d2] => { results := [.lit (.bool false)], args := [d1, d2] }
  | _ => none }
def QueuePlaysWrongFalsely : Prop := queuePlaysRow.holds Try.pinned (OpenSpec.ofChange queuePlaysWrong)

/-- 'spinetlaw33.ConfReads': WHATEVER THE INPUT: true; the input reads as it did. -/
def confReadsSpec : ChangeSpec := { name := "confReads", fn := fun _ => fun
  | [d] => { results := [.lit (.bool true)], args := [d] }
  | _ => none }
def confReadsRow : OpenClaim := { program := "ytgebopmiefgdoaa", sum := "20e18af6012b1a14f3e40ef379ccc167bae469a0baa965b1f5200ee671e0c553", func := "spinet/spinetlaw33.ConfReads", spec := "confReads", apart := false }
def ConfReadsSaid : Prop := confReadsRow.holds Try.pinned (OpenSpec.ofChange confReadsSpec)

/-- ITS FALSE NEIGHBOUR: 'it returns false'. Refute it at one input. -/
def confReadsWrong : ChangeSpec := { name := "confReads", fn := fun _ => fun
  | [d] => { results := [.lit (.bool false)], args := [d] }
  | _ => none }
def ConfReadsWrongFalsely : Prop := confReadsRow.holds Try.pinned (OpenSpec.ofChange confReadsWrong)

/-- 'spinetlaw02.DigitNums': WHATEVER THE INPUT: true; the input reads as it did. -/
def digitNumsSpec : ChangeSpec := { name := "digitNums", fn := fun _ => fun
  | [d1, d2] => { results := [.lit (.bool true)], args := [d1, d2] }
  | _ => none }
def digitNumsRow : OpenClaim := { program := "ytgebopmiefgdoaa", sum := "20e18af6012b1a14f3e40ef379ccc167bae469a0baa965b1f5200ee671e0c553", func := "spinet/spinetlaw02.DigitNums", spec := "digitNums", apart := false }
def DigitNumsSaid : Prop := digitNumsRow.holds Try.pinned (OpenSpec.ofChange digitNumsSpec)

/-- ITS FALSE NEIGHBOUR: 'it returns false'. Refute it at one input. -/
def digitNumsWrong : ChangeSpec := { name := "digitNums", fn := fun _ => fun
  | [d1, d2] => { results := [.lit (.bool false)], args := [d1, d2] }
  | _ => none }
def DigitNumsWrongFalsely : Prop := digitNumsRow.holds Try.pinned (OpenSpec.ofChange digitNumsWrong)

/-- 'spinetlaw33.ConfTexts': WHATEVER THE INPUT: true; the input reads as it did. -/
def confTextsSpec : ChangeSpec := { name := "confTexts", fn := fun _ => fun
  | [d] => { results := [.lit (.bool true)], args := [d] }
  | _ => none }
def confTextsRow : OpenClaim := { program := "ytgebopmiefgdoaa", sum := "20e18af6012b1a14f3e40ef379ccc167bae469a0baa965b1f5200ee671e0c553", func := "spinet/spinetlaw33.ConfTexts", spec := "confTexts", apart := false }
def ConfTextsSaid : Prop := confTextsRow.holds Try.pinned (OpenSpec.ofChange confTextsSpec)

/-- ITS FALSE NEIGHBOUR: 'it returns false'. Refute it at one input. -/
def confTextsWrong : ChangeSpec := { name := "confTexts", fn := fun _ => fun
  | [d] => { results := [.lit (.bool false)], args := [d] }
  | _ => none }
def ConfTextsWrongFalsely : Prop := confTextsRow.holds Try.pinned (OpenSpec.ofChange confTextsWrong)

/-- 'spinetlaw26.RecordGets': WHATEVER THE INPUT: true; the input reads as it did. -/
def recordGetsSpec : ChangeSpec := { name := "recordGets", fn := fun _ => fun
  | [d1, d2] => { results := [.lit (.bool true)], args := [d1, d2] }
  | _ => none }
def recordGetsRow : OpenClaim := { program := "ytgebopmiefgdoaa", sum := "20e18af6012b1a14f3e40ef379ccc167bae469a0baa965b1f5200ee671e0c553", func := "spinet/spinetlaw26.RecordGets", spec := "recordGets", apart := false }
def RecordGetsSaid : Prop := recordGetsRow.holds Try.pinned (OpenSpec.ofChange recordGetsSpec)

/-- ITS FALSE NEIGHBOUR: 'it returns false'. Refute it at one input. -/
def recordGetsWrong : ChangeSpec := { name := "recordGets", fn := fun _ => fun
  | [d1, d2] => { results := [.lit (.bool false)], args := [d1, d2] }
  | _ => none }
def RecordGetsWrongFalsely : Prop := recordGetsRow.holds Try.pinned (OpenSpec.ofChange recordGetsWrong)

/-- 'spinetlaw32.RamPlays': WHATEVER THE INPUT: true; the input reads as it did. -/
def ramPlaysSpec : ChangeSpec := { name := "ramPlays", fn := fun _ => fun
  | [d1, d2, d3] => { results := [.lit (.bool true)], args := [d1, d2, d3] }
  | _ => none }
def ramPlaysRow : OpenClaim := { program := "ytgebopmiefgdoaa", sum := "20e18af6012b1a14f3e40ef379ccc167bae469a0baa965b1f5200ee671e0c553", func := "spinet/spinetlaw32.RamPlays", spec := "ramPlays", unfollowed := true, recurses := true, apart := false }
def RamPlaysSaid : Prop := ramPlaysRow.holds Try.pinned (OpenSpec.ofChange ramPlaysSpec)

/-- ITS FALSE NEIGHBOUR: 'it returns false'. Refute it at one input. -/
def ramPlaysWrong : ChangeSpec := { name := "ramPlays", fn := fun _ => fun
  | [d1, d2, d3] => { results := [.lit (.bool false)], args := [d1, d2, d3] }
  | _ => none }
def RamPlaysWrongFalsely : Prop := ramPlaysRow.holds Try.pinned (OpenSpec.ofChange ramPlaysWrong)

/-- 'spinetlaw26.RecordPuts': WHATEVER THE INPUT: true; the input reads as it did. -/
def recordPutsSpec : ChangeSpec := { name := "recordPuts", fn := fun _ => fun
  | [d] => { results := [.lit (.bool true)], args := [d] }
  | _ => none }
def recordPutsRow : OpenClaim := { program := "ytgebopmiefgdoaa", sum := "20e18af6012b1a14f3e40ef379ccc167bae469a0baa965b1f5200ee671e0c553", func := "spinet/spinetlaw26.RecordPuts", spec := "recordPuts", inPlace := ["internal/abi.NoEscape"], apart := false }
def RecordPutsSaid : Prop := recordPutsRow.holds Try.pinned (OpenSpec.ofChange recordPutsSpec)

/-- ITS FALSE NEIGHBOUR: 'it returns false'. Refute it at one input. -/
def recordPutsWrong : ChangeSpec := { name := "recordPuts", fn := fun _ => fun
  | [d] => { results := [.lit (.bool false)], args := [d] }
  | _ => none }
def RecordPutsWrongFalsely : Prop := recordPutsRow.holds Try.pinned (OpenSpec.ofChange recordPutsWrong)

/-- 'spinetlaw51.DifferSame': WHATEVER THE INPUT: true; the input reads as it did. -/
def differSameSpec : ChangeSpec := { name := "differSame", fn := fun _ => fun
  | [d1, d2] => { results := [.lit (.bool true)], args := [d1, d2] }
  | _ => none }
def differSameRow : OpenClaim := { program := "ytgebopmiefgdoaa", sum := "20e18af6012b1a14f3e40ef379ccc167bae469a0baa965b1f5200ee671e0c553", func := "spinet/spinetlaw51.DifferSame", spec := "differSame", inPlace := ["internal/abi.NoEscape", "internal/bytealg.MakeNoZero"], unfollowed := true, recurses := true, apart := false }
def DifferSameSaid : Prop := differSameRow.holds Try.pinned (OpenSpec.ofChange differSameSpec)

/-- ITS FALSE NEIGHBOUR: 'it returns false'. Refute it at one input. -/
def differSameWrong : ChangeSpec := { name := "differSame", fn := fun _ => fun
  | [d1, d2] => { results := [.lit (.bool false)], args := [d1, d2] }
  | _ => none }
def DifferSameWrongFalsely : Prop := differSameRow.holds Try.pinned (OpenSpec.ofChange differSameWrong)

/-- 'spinetlaw51.DifferHolds': WHATEVER THE INPUT: true; the input reads as it did. -/
def differHoldsSpec : ChangeSpec := { name := "differHolds", fn := fun _ => fun
  | [d1, d2, d3] => { results := [.lit (.bool true)], args := [d1, d2, d3] }
  | _ => none }
def differHoldsRow : OpenClaim := { program := "ytgebopmiefgdoaa", sum := "20e18af6012b1a14f3e40ef379ccc167bae469a0baa965b1f5200ee671e0c553", func := "spinet/spinetlaw51.DifferHolds", spec := "differHolds", inPlace := ["internal/abi.NoEscape", "internal/bytealg.MakeNoZero"], unfollowed := true, recurses := true, apart := false }
def DifferHoldsSaid : Prop := differHoldsRow.holds Try.pinned (OpenSpec.ofChange differHoldsSpec)

/-- ITS FALSE NEIGHBOUR: 'it returns false'. Refute it at one input. -/
def differHoldsWrong : ChangeSpec := { name := "differHolds", fn := fun _ => fun
  | [d1, d2, d3] => { results := [.lit (.bool false)], args := [d1, d2, d3] }
  | _ => none }
def DifferHoldsWrongFalsely : Prop := differHoldsRow.holds Try.pinned (OpenSpec.ofChange differHoldsWrong)

/- THE SECOND FORM. 'bulk': how many values and letters a reading holds, each counted each time it is reached (what is shared counts as often as it is met; a slice's spare places count too). A statement '..UptoSaid' is the law's where the arguments, and the package variables that the reading takes, are together of bulk at most 1048576: NARROWER than '..Said'. Prove '..Said' where nothing that the law and all that it calls make is longer than what came in: it says more and counts as full. Else prove '..UptoSaid'. A law counts once. -/
mutual
def uptoBulk {H : Type} : DataW H → Nat
  | .lit (.string bytes) => bytes.length + 1
  | .lit _ => 1
  | .nil => 1
  | .ptr d => uptoBulk d + 1
  | .slice elems spare => uptoBulkAll elems + uptoBulkAll spare + 1
  | .agg parts => uptoBulkAll parts + 1
  | .iface _ d => uptoBulk d + 1
  | .map entries => uptoBulkEntries entries + 1
  | .held _ => 1
def uptoBulkAll {H : Type} : List (DataW H) → Nat
  | [] => 0
  | d :: r => uptoBulk d + uptoBulkAll r
def uptoBulkEntries {H : Type} : List (Lit × DataW H) → Nat
  | [] => 0
  | x :: r => uptoBulkEntry x + uptoBulkEntries r
def uptoBulkEntry {H : Type} : Lit × DataW H → Nat
  | (.string bytes, d) => bytes.length + uptoBulk d + 1
  | (_, d) => uptoBulk d + 1
 end
def uptoSmall : (H : Type) → List (DataW H) → Bool := fun _ ds => decide (uptoBulkAll ds ≤ 1048576)
def OpenSpec.upto (s : _root_.Go.ChangeSpec) : _root_.Go.OpenSpec := { _root_.Go.OpenSpec.ofChange s with cond := some uptoSmall }

/-- 'spinetlaw01.OctetSigns', WHERE WHAT IT READS IS OF BULK AT MOST 1048576: true; the input reads as it did. -/
def octetSignsUptoRow : OpenClaim := { program := "ytgebopmiefgdoaa", sum := "20e18af6012b1a14f3e40ef379ccc167bae469a0baa965b1f5200ee671e0c553", func := "spinet/spinetlaw01.OctetSigns", spec := "octetSigns", apart := false, narrowed := true }
def OctetSignsUptoSaid : Prop := octetSignsUptoRow.holds Try.pinned (OpenSpec.upto octetSignsSpec)

/-- 'spinetlaw01.OctetWords', WHERE WHAT IT READS IS OF BULK AT MOST 1048576: true; the input reads as it did. -/
def octetWordsUptoRow : OpenClaim := { program := "ytgebopmiefgdoaa", sum := "20e18af6012b1a14f3e40ef379ccc167bae469a0baa965b1f5200ee671e0c553", func := "spinet/spinetlaw01.OctetWords", spec := "octetWords", apart := false, narrowed := true }
def OctetWordsUptoSaid : Prop := octetWordsUptoRow.holds Try.pinned (OpenSpec.upto octetWordsSpec)

/-- 'spinetlaw28.EdgeKept', WHERE WHAT IT READS IS OF BULK AT MOST 1048576: true; the input reads as it did. -/
def edgeKeptUptoRow : OpenClaim := { program := "ytgebopmiefgdoaa", sum := "20e18af6012b1a14f3e40ef379ccc167bae469a0baa965b1f5200ee671e0c553", func := "spinet/spinetlaw28.EdgeKept", spec := "edgeKept", apart := false, narrowed := true }
def EdgeKeptUptoSaid : Prop := edgeKeptUptoRow.holds Try.pinned (OpenSpec.upto edgeKeptSpec)

/-- 'spinetlaw28.EdgeSteps', WHERE WHAT IT READS IS OF BULK AT MOST 1048576: true; the input reads as it did. -/
def edgeStepsUptoRow : OpenClaim := { program := "ytgebopmiefgdoaa", sum := "20e18af6012b1a14f3e40ef379ccc167bae469a0baa965b1f5200ee671e0c553", func := "spinet/spinetlaw28.EdgeSteps", spec := "edgeSteps", apart := false, narrowed := true }
def EdgeStepsUptoSaid : Prop := edgeStepsUptoRow.holds Try.pinned (OpenSpec.upto edgeStepsSpec)

/-- 'spinetlaw02.DigitPairs', WHERE WHAT IT READS IS OF BULK AT MOST 1048576: true; the input reads as it did. -/
def digitPairsUptoRow : OpenClaim := { program := "ytgebopmiefgdoaa", sum := "20e18af6012b1a14f3e40ef379ccc167bae469a0baa965b1f5200ee671e0c553", func := "spinet/spinetlaw02.DigitPairs", spec := "digitPairs", apart := false, narrowed := true }
def DigitPairsUptoSaid : Prop := digitPairsUptoRow.holds Try.pinned (OpenSpec.upto digitPairsSpec)

/-- 'spinetlaw01.OctetRows', WHERE WHAT IT READS IS OF BULK AT MOST 1048576: true; the input reads as it did. -/
def octetRowsUptoRow : OpenClaim := { program := "ytgebopmiefgdoaa", sum := "20e18af6012b1a14f3e40ef379ccc167bae469a0baa965b1f5200ee671e0c553", func := "spinet/spinetlaw01.OctetRows", spec := "octetRows", apart := false, narrowed := true }
def OctetRowsUptoSaid : Prop := octetRowsUptoRow.holds Try.pinned (OpenSpec.upto octetRowsSpec)

/-- 'spinetlaw58.RingPlays', WHERE WHAT IT READS IS OF BULK AT MOST 1048576: true; the input reads as it did. -/
def ringPlaysUptoRow : OpenClaim := { program := "ytgebopmiefgdoaa", sum := "20e18af6012b1a14f3e40ef379ccc167bae469a0baa965b1f5200ee671e0c553", func := "spinet/spinetlaw58.RingPlays", spec := "ringPlays", unfollowed := true, recurses := true, apart := false, narrowed := true }
def RingPlaysUptoSaid : Prop := ringPlaysUptoRow.holds Try.pinned (OpenSpec.upto ringPlaysSpec)

/-- 'spinetlaw02.DigitReads', WHERE WHAT IT READS IS OF BULK AT MOST 1048576: true; the input reads as it did. -/
def digitReadsUptoRow : OpenClaim := { program := "ytgebopmiefgdoaa", sum := "20e18af6012b1a14f3e40ef379ccc167bae469a0baa965b1f5200ee671e0c553", func := "spinet/spinetlaw02.DigitReads", spec := "digitReads", apart := false, narrowed := true }
def DigitReadsUptoSaid : Prop := digitReadsUptoRow.holds Try.pinned (OpenSpec.upto digitReadsSpec)

/-- 'spinetlaw21.QueuePlays', WHERE WHAT IT READS IS OF BULK AT MOST 1048576: true; the input reads as it did. -/
def queuePlaysUptoRow : OpenClaim := { program := "ytgebopmiefgdoaa", sum := "20e18af6012b1a14f3e40ef379ccc167bae469a0baa965b1f5200ee671e0c553", func := "spinet/spinetlaw21.QueuePlays", spec := "queuePlays", apart := false, narrowed := true }
def QueuePlaysUptoSaid : Prop := queuePlaysUptoRow.holds Try.pinned (OpenSpec.upto queuePlaysSpec)

/-- 'spinetlaw33.ConfReads', WHERE WHAT IT READS IS OF BULK AT MOST 1048576: true; the input reads as it did. -/
def confReadsUptoRow : OpenClaim := { program := "ytgebopmiefgdoaa", sum := "20e18af6012b1a14f3e40ef379ccc167bae469a0baa965b1f5200ee671e0c553", func := "spinet/spinetlaw33.ConfReads", spec := "confReads", apart := false, narrowed := true }
def ConfReadsUptoSaid : Prop := confReadsUptoRow.holds Try.pinned (OpenSpec.upto confReadsSpec)

/-- 'spinetlaw02.DigitNums', WHERE WHAT IT READS IS OF BULK AT MOST 1048576: true; the input reads as it did. -/
def digitNumsUptoRow : OpenClaim := { program := "ytgebopmiefgdoaa", sum := "20e18af6012b1a14f3e40ef379ccc167bae469a0baa965b1f5200ee671e0c553", func := "spinet/spinetlaw02.DigitNums", spec := "digitNums", apart := false, narrowed := true }
def DigitNumsUptoSaid : Prop := digitNumsUptoRow.holds Try.pinned (OpenSpec.upto digitNumsSpec)

/-- 'spinetlaw33.ConfTexts', WHERE WHAT IT READS IS OF BULK AT MOST 1048576: true; the input reads as it did. -/
def confTextsUptoRow : OpenClaim := { program := "ytgebopmiefgdoaa", sum := "20e18af6012b1a14f3e40ef379ccc167bae469a0baa965b1f5200ee671e0c553", func := "spinet/spinetlaw33.ConfTexts", spec := "confTexts", apart := false, narrowed := true }
def ConfTextsUptoSaid : Prop := confTextsUptoRow.holds Try.pinned (OpenSpec.upto confTextsSpec)

/-- 'spinetlaw26.RecordGets', WHERE WHAT IT READS IS OF BULK AT MOST 1048576: true; the input reads as it did. -/
def recordGetsUptoRow : OpenClaim := { program := "ytgebopmiefgdoaa", sum := "20e18af6012b1a14f3e40ef379ccc167bae469a0baa965b1f5200ee671e0c553", func := "spinet/spinetlaw26.RecordGets", spec := "recordGets", apart := false, narrowed := true }
def RecordGetsUptoSaid : Prop := recordGetsUptoRow.holds Try.pinned (OpenSpec.upto recordGetsSpec)

/-- 'spinetlaw32.RamPlays', WHERE WHAT IT READS IS OF BULK AT MOST 1048576: true; the input reads as it did. -/
def ramPlaysUptoRow : OpenClaim := { program := "ytgebopmiefgdoaa", sum := "20e18af6012b1a14f3e40ef379ccc167bae469a0baa965b1f5200ee671e0c553", func := "spinet/spinetlaw32.RamPlays", spec := "ramPlays", unfollowed := true, recurses := true, apart := false, narrowed := true }
def RamPlaysUptoSaid : Prop := ramPlaysUptoRow.holds Try.pinned (OpenSpec.upto ramPlaysSpec)

/-- 'spinetlaw26.RecordPuts', WHERE WHAT IT READS IS OF BULK AT MOST 1048576: true; the input reads as it did. -/
def recordPutsUptoRow : OpenClaim := { program := "ytgebopmiefgdoaa", sum := "20e18af6012b1a14f3e40ef379ccc167bae469a0baa965b1f5200ee671e0c553", func := "spinet/spinetlaw26.RecordPuts", spec := "recordPuts", inPlace := ["internal/abi.NoEscape"], apart := false, narrowed := true }
def RecordPutsUptoSaid : Prop := recordPutsUptoRow.holds Try.pinned (OpenSpec.upto recordPutsSpec)

/-- 'spinetlaw51.DifferSame', WHERE WHAT IT READS IS OF BULK AT MOST 1048576: true; the input reads as it did. -/
def differSameUptoRow : OpenClaim := { program := "ytgebopmiefgdoaa", sum := "20e18af6012b1a14f3e40ef379ccc167bae469a0baa965b1f5200ee671e0c553", func := "spinet/spinetlaw51.DifferSame", spec := "differSame", inPlace := ["internal/abi.NoEscape", "internal/bytealg.MakeNoZero"], unfollowed := true, recurses := true, apart := false, narrowed := true }
def DifferSameUptoSaid : Prop := differSameUptoRow.holds Try.pinned (OpenSpec.upto differSameSpec)

/-- 'spinetlaw51.DifferHolds', WHERE WHAT IT READS IS OF BULK AT MOST 1048576: true; the input reads as it did. -/
def differHoldsUptoRow : OpenClaim := { program := "ytgebopmiefgdoaa", sum := "20e18af6012b1a14f3e40ef379ccc167bae469a0baa965b1f5200ee671e0c553", func := "spinet/spinetlaw51.DifferHolds", spec := "differHolds", inPlace := ["internal/abi.NoEscape", "internal/bytealg.MakeNoZero"], unfollowed := true, recurses := true, apart := false, narrowed := true }
def DifferHoldsUptoSaid : Prop := differHoldsUptoRow.holds Try.pinned (OpenSpec.upto differHoldsSpec)

end Rows
end Go.Proofs.Ytgebopmiefgdoaa

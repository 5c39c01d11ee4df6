/-
  The pure statement of OctetSigns: for every byte the law's printed function answers true: Sign and Sign5 of it are its sign-kept words.
  Conditions: none beyond the byte's own range.
-/
import Derived.Test.YtgebopmiefgdoaaPOctetSignsx1
namespace Go.Proofs.Ytgebopmiefgdoaa.Pure
open Go.RowKit Go.Proofs.Ytgebopmiefgdoaa.POctetSigns Go.Proofs.YtgebopmiefgdoaaW.PrintWords Go.Proofs.YtgebopmiefgdoaaW.PrintLast

theorem octetSigns_all : ∀ n : Fin 256, spinetlaw01_OctetSigns.f 1 (n.val : Int) = some true := by
  decide +kernel

theorem OctetSigns : spinetlaw01_OctetSigns.Pure := by
  intro a0 h
  have hx : 0 ≤ a0 ∧ a0 ≤ 255 := by simpa [Lit.wf, IntKind.min, IntKind.max, IntKind.signed, IntKind.bits] using h
  obtain ⟨n, rfl⟩ := Int.eq_ofNat_of_zero_le hx.1
  exact ⟨1, octetSigns_all ⟨n, by omega⟩⟩

end Go.Proofs.Ytgebopmiefgdoaa.Pure

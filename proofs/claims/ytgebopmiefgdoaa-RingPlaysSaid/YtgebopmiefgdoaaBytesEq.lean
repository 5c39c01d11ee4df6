/-
  The contract of bytes.Equal.
-/
import Derived.Test.YtgebopmiefgdoaaBytes
import Derived.WalkKit
import Derived.WalkSpells
namespace Go.Proofs.Ytgebopmiefgdoaa
open Go.RowKit
theorem Equal_any (l m : List UInt8) (A A2 : Option Addr) (n c n2 c2 B B2 : Nat) (w : World) (hr : Reads w B 1 A n (bytesV l)) (hr2 : Reads w B2 1 A2 n2 (bytesV m)) :
    Calls Try.prog 36 #[.slice A n c, .slice A2 n2 c2] w fun e w' => e = .returned (.bool (l == m)) ∧ w = w' := by
  have h1 := conv_bytes_str (P := Try.prog) (src := 37) (dst := 9) Try.underlying37 Try.underlying5 Try.underlying9 c hr
  have h2 := conv_bytes_str (P := Try.prog) (src := 37) (dst := 9) Try.underlying37 Try.underlying5 Try.underlying9 c2 hr2
  go_enter Try.func36, Try.ntmps36
  go_wp2
  go_ret
  exact ⟨rfl, rfl⟩
end Go.Proofs.Ytgebopmiefgdoaa

/-
  Contracts of the octet package's small functions and of the law OctetWords: for every argument of the type.
-/
import Derived.Test.YtgebopmiefgdoaaBase
import Derived.WalkKit
import Derived.WalkSpells
import Derived.KernelRfl
import Derived.Deep.Draws
import Derived.Deep.QuietTactic
import Derived.BigQuiet
import Derived.Laws.BitsLemmas
import Derived.RowKit3
namespace Go.Proofs.Ytgebopmiefgdoaa
open Go.RowKit
theorem u16_in (n : Int) (h0 : 0 ≤ n) (h1 : n < 2 ^ 16) : IntKind.u16.wrap n = n := by
  simp [IntKind.wrap, IntKind.bits, IntKind.signed]; omega
theorem or16 (hi lo : Int) (h0 : 0 ≤ hi) (h1 : hi ≤ 255) (l0 : 0 ≤ lo) (l1 : lo ≤ 255) : bits .or .u16 (hi * 256) lo = 256 * hi + lo := by
  rw [bits_join .u16 16 (by decide) u16_in 8 (hi * 256) lo (by omega) (by omega) (by omega) l0 (by omega) (by omega), Int.mul_comm]

theorem Word_any (hi lo : Int) (w : World) (h0 : 0 ≤ hi) (h1 : hi ≤ 255) (l0 : 0 ≤ lo) (l1 : lo ≤ 255) :
    Calls Try.prog 23 #[.int .u8 hi, .int .u8 lo] w fun e w' => e = .returned (.int .u16 (256 * hi + lo)) ∧ w = w' := by
  go_enter Try.func23, Try.ntmps23
  go_wp2
  go_ret
  exact ⟨ret_int (or16 hi lo h0 h1 l0 l1), rfl⟩
theorem High_any (x : Int) (w : World) (h0 : 0 ≤ x) (h1 : x ≤ 65535) :
    Calls Try.prog 24 #[.int .u16 x] w fun e w' => e = .returned (.int .u8 (x / 256)) ∧ w = w' := by
  go_enter Try.func24, Try.ntmps24
  go_wp2
  go_ret
  exact ⟨ret_int (by omega), rfl⟩
theorem Low_any (x : Int) (w : World) (_h0 : 0 ≤ x) (_h1 : x ≤ 65535) :
    Calls Try.prog 25 #[.int .u16 x] w fun e w' => e = .returned (.int .u8 (x % 256)) ∧ w = w' := by
  go_enter Try.func25, Try.ntmps25
  go_wp2
  go_ret
  exact ⟨rfl, rfl⟩
theorem Sign_254 (w : World) :
    Calls Try.prog 20 #[.int .u8 254] w fun e w' => e = .returned (.int .u16 65534) ∧ w = w' := by
  go_enter Try.func20, Try.ntmps20
  go_wp2
  go_ret
  exact ⟨rfl, rfl⟩
theorem Sign5_16 (w : World) :
    Calls Try.prog 21 #[.int .u8 16] w fun e w' => e = .returned (.int .u16 65520) ∧ w = w' := by
  go_enter Try.func21, Try.ntmps21
  go_wp2
  go_ret
  exact ⟨rfl, rfl⟩
theorem alive01 (w : World) :
    Calls Try.prog 22 #[] w fun e w' => e = .returned (.bool true) ∧ w = w' := by
  go_enter Try.func22, Try.ntmps22
  go_wp2_with (first | (go_at_call 20; refine (Sign_254 _).mono ?_; rintro e w' ⟨rfl, rfl⟩) | (go_at_call 21; refine (Sign5_16 _).mono ?_; rintro e w' ⟨rfl, rfl⟩))
  go_ret
  exact ⟨rfl, rfl⟩
theorem OctetWords_walk (w : World) (x : Int) (gx : IntKind.u16.min ≤ x ∧ x ≤ IntKind.u16.max) (hi : Int) (gh : IntKind.u8.min ≤ hi ∧ hi ≤ IntKind.u8.max) (lo : Int) (gl : IntKind.u8.min ≤ lo ∧ lo ≤ IntKind.u8.max) :
    Calls Try.prog 4 #[.int .u16 x, .int .u8 hi, .int .u8 lo] w fun e w' => e = .returned (.bool true) ∧ Below w.heap.size w w' := by
  simp [IntKind.min, IntKind.max, IntKind.signed, IntKind.bits] at gx gh gl
  obtain ⟨x0, x1⟩ := gx
  obtain ⟨h0, h1⟩ := gh
  obtain ⟨l0, l1⟩ := gl
  go_enter Try.func4, Try.ntmps4
  go_wp2_with (first | (go_at_call 23; refine (Word_any _ _ _ (by omega) (by omega) (by omega) (by omega)).mono ?_; rintro e w' ⟨rfl, rfl⟩) | (go_at_call 24; refine (High_any _ _ (by omega) (by omega)).mono ?_; rintro e w' ⟨rfl, rfl⟩) | (go_at_call 25; refine (Low_any _ _ (by omega) (by omega)).mono ?_; rintro e w' ⟨rfl, rfl⟩) | (go_at_call 22; refine (alive01 _).mono ?_; rintro e w' ⟨rfl, rfl⟩))
  go_ret
  exact ⟨rfl, Below.refl _ _⟩
end Go.Proofs.Ytgebopmiefgdoaa

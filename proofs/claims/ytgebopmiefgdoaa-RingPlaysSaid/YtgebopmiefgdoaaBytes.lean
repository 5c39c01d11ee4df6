/-
  Bytes as cells: a list of bytes, its cells; bytes that came in, as such a list; strings as lists.
-/
import Derived.Test.YtgebopmiefgdoaaDec
import Derived.Test.YtgebopmiefgdoaaOwn
import Derived.KernelRfl
namespace Go.Proofs.Ytgebopmiefgdoaa
open Go.RowKit
def bytesV (l : List UInt8) : List Value := l.map fun c : UInt8 => .int .u8 (c.toNat : Int)
theorem bytesV_get (l : List UInt8) (k : Nat) (u : Value) (h : (bytesV l)[k]? = some u) : ∃ c, l[k]? = some c ∧ u = .int .u8 (c.toNat : Int) := by
  unfold bytesV at h
  rw [List.getElem?_map] at h
  obtain ⟨c, h1, h2⟩ := Option.map_eq_some_iff.1 h
  exact ⟨c, h1, h2.symm⟩
theorem info_u8 : (Try.prog.info? 5).map (fun i => (i.zero, i.size, i.bytes)) = some (some (.int .u8 0), 1, 1) := by kernel_rfl
theorem bytesV_append (l m : List UInt8) : bytesV (l ++ m) = bytesV l ++ bytesV m := by simp [bytesV]
theorem bytesV_length (l : List UInt8) : (bytesV l).length = l.length := by simp [bytesV]
theorem bytesV_one (l : List UInt8) : ∀ u ∈ bytesV l, u.oneCell' = true := by
  intro u hu
  obtain ⟨c, _, rfl⟩ := List.mem_map.1 hu
  rfl
theorem str_list (s : ByteArray) : ∃ l : List UInt8, s = ⟨l.toArray⟩ ∧ s.size = l.length := ⟨s.data.toList, by simp, rfl⟩
/-- Bytes that came in are the cells of a list of bytes. -/
theorem bytes_in {ys : List Int} (h : ∀ y ∈ ys, u8Good y) : ∃ l : List UInt8, ys.flatMap u8Cell = bytesV l ∧ l.length = ys.length := by
  induction ys with
  | nil => exact ⟨[], rfl, rfl⟩
  | cons y ys ih =>
    obtain ⟨l, h1, h2⟩ := ih (fun y hy => h y (List.mem_cons_of_mem _ hy))
    have hy := h y List.mem_cons_self
    unfold u8Good at hy
    simp [IntKind.min, IntKind.max, IntKind.signed, IntKind.bits] at hy
    refine ⟨UInt8.ofNat y.toNat :: l, ?_, by simp [h2]⟩
    have e : (((UInt8.ofNat y.toNat).toNat : Nat) : Int) = y := by rw [UInt8.toNat_ofNat']; omega
    rw [List.flatMap_cons, h1]
    simp only [bytesV, List.map_cons, e]
    rfl
end Go.Proofs.Ytgebopmiefgdoaa

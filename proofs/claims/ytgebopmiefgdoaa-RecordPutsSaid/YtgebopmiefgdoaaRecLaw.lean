/-
  The plain law of records: bytes read as they were; the law's own functions spoken of records.
-/
import Derived.Test.YtgebopmiefgdoaaRecPuts
import Derived.Test.YtgebopmiefgdoaaRecRead
import Derived.Test.YtgebopmiefgdoaaRecText3
import Derived.Test.YtgebopmiefgdoaaEqRec
namespace Go.Proofs.Ytgebopmiefgdoaa
open Go.RowKit
theorem lvl_lvlN : ∀ b0 b1 b2 b3 b4 b5 b6 : Bool, lvl (UInt8.ofNat (lvlN b0 b1 b2 b3 b4 b5 b6)) 0 = b0 ∧ lvl (UInt8.ofNat (lvlN b0 b1 b2 b3 b4 b5 b6)) 1 = b1 ∧ lvl (UInt8.ofNat (lvlN b0 b1 b2 b3 b4 b5 b6)) 2 = b2 ∧ lvl (UInt8.ofNat (lvlN b0 b1 b2 b3 b4 b5 b6)) 3 = b3 ∧ lvl (UInt8.ofNat (lvlN b0 b1 b2 b3 b4 b5 b6)) 4 = b4 ∧ lvl (UInt8.ofNat (lvlN b0 b1 b2 b3 b4 b5 b6)) 5 = b5 ∧ lvl (UInt8.ofNat (lvlN b0 b1 b2 b3 b4 b5 b6)) 6 = b6 := by decide +kernel
theorem recOf_bytes (r : Rec) (g : r.Good) : recOf (UInt8.ofNat (r.addr.toNat / 256)) (UInt8.ofNat (r.addr.toNat % 256)) (UInt8.ofNat r.data.toNat) (UInt8.ofNat (lvlN r.read r.ba r.bs r.lic r.avma r.busy r.mine)) = r := by
  obtain ⟨e1, e2, h1, h2⟩ := g.nums
  obtain ⟨l0, l1, l2, l3, l4, l5, l6⟩ := lvl_lvlN r.read r.ba r.bs r.lic r.avma r.busy r.mine
  have a0 : (UInt8.ofNat (r.addr.toNat / 256)).toNat = r.addr.toNat / 256 := by rw [UInt8.toNat_ofNat']; omega
  have a1 : (UInt8.ofNat (r.addr.toNat % 256)).toNat = r.addr.toNat % 256 := by rw [UInt8.toNat_ofNat']; omega
  have a2 : (UInt8.ofNat r.data.toNat).toNat = r.data.toNat := by rw [UInt8.toNat_ofNat']; omega
  obtain ⟨addr, data, read, ba, bs, lic, avma, busy, mine⟩ := r
  simp only [recOf, Rec.mk.injEq] at *
  refine ⟨?_, ?_, l0, l1, l2, l3, l4, l5, l6⟩
  · rw [a0, a1]; omega
  · rw [a2]; exact e2
theorem getL_cons (x0 x1 x2 x3 : UInt8) (l : List UInt8) (k : Nat) : getL (x0 :: x1 :: x2 :: x3 :: l) (k + 1) = recOf x0 x1 x2 x3 :: getL l k := by
  unfold getL
  rw [List.range_succ_eq_map, List.map_cons, List.map_map]
  congr 1
theorem putsL_cons (r : Rec) (ys : List Rec) : putsL (r :: ys) = UInt8.ofNat (r.addr.toNat / 256) :: UInt8.ofNat (r.addr.toNat % 256) :: UInt8.ofNat r.data.toNat :: UInt8.ofNat (lvlN r.read r.ba r.bs r.lic r.avma r.busy r.mine) :: putsL ys := rfl
theorem getL_puts (ys : List Rec) (hg : ∀ y ∈ ys, y.Good) : getL (putsL ys) ys.length = ys := by
  induction ys with
  | nil => rfl
  | cons r ys ih =>
    rw [putsL_cons, List.length_cons, getL_cons, recOf_bytes r (hg r List.mem_cons_self), ih fun y hy => hg y (List.mem_cons_of_mem _ hy)]
theorem puts_good (ys : List Rec) : ¬ badL (putsL ys) := by
  rintro ⟨k, c, hc, h⟩
  induction ys generalizing k with
  | nil => simp [putsL] at hc
  | cons r ys ih =>
    rw [putsL_cons] at hc
    rcases k with _ | k
    · simp at hc
      have := lvlN_lt r.read r.ba r.bs r.lic r.avma r.busy r.mine
      rw [← hc, UInt8.toNat_ofNat'] at h
      omega
    · rw [show 4 * (k + 1) + 3 = 4 * k + 3 + 1 + 1 + 1 + 1 by omega] at hc
      simp only [List.getElem?_cons_succ] at hc
      exact ih k hc
theorem Put26R_any (r : Rec) (g : r.Good) (w : World) :
    Calls Try.prog 84 #[.agg #[.int .u16 r.addr, .int .u8 r.data, .bool r.read, .bool r.ba, .bool r.bs, .bool r.lic, .bool r.avma, .bool r.busy, .bool r.mine]] w fun e w' => ∃ g, e = .returned (.slice (some ⟨g, 0, none⟩) 4 4) ∧ Reads w' w'.heap.size 1 (some ⟨g, 0, none⟩) 4 (bytesV r.bytes) ∧ Below w.heap.size w w' := by
  obtain ⟨e1, e2, h1, h2⟩ := g.nums
  have h := Put26_any r.addr.toNat r.data.toNat r.read r.ba r.bs r.lic r.avma r.busy r.mine w h1 h2
  rw [e1, e2] at h
  exact h
theorem Text26R_any (r : Rec) (g : r.Good) (w : World) :
    Calls Try.prog 82 #[.agg #[.int .u16 r.addr, .int .u8 r.data, .bool r.read, .bool r.ba, .bool r.bs, .bool r.lic, .bool r.avma, .bool r.busy, .bool r.mine]] w fun e w' => e = .returned (.string ⟨r.txt.toArray⟩) ∧ Below w.heap.size w w' := by
  obtain ⟨e1, e2, h1, h2⟩ := g.nums
  have h := Text26_any r.addr.toNat r.data.toNat r.read r.ba r.bs r.lic r.avma r.busy r.mine w h1 h2
  rw [e1, e2] at h
  exact h
theorem RReadR_any (r : Rec) (g : r.Good) (w : World) :
    Calls Try.prog 81 #[.string ⟨r.txt.toArray⟩] w fun e w' => e = .returned (.tuple #[.agg #[.int .u16 r.addr, .int .u8 r.data, .bool r.read, .bool r.ba, .bool r.bs, .bool r.lic, .bool r.avma, .bool r.busy, .bool r.mine], .int .i64 0]) ∧ Below w.heap.size w w' := by
  obtain ⟨e1, e2, h1, h2⟩ := g.nums
  refine (RRead_any r.txt w (by rw [Rec.txt_len]; omega)).mono ?_
  rintro e w' ⟨hb, ⟨a, d, b0, b1, b2, b3, b4, b5, b6, ha, hd, he, rfl⟩ | ⟨hno, _⟩⟩
  · obtain ⟨rfl, rfl, rfl, rfl, rfl, rfl, rfl, rfl, rfl⟩ := recL_inj _ _ _ _ _ _ _ _ _ _ _ _ _ _ _ _ _ _ ha hd h1 h2 he
    rw [e1, e2]
    exact ⟨rfl, hb⟩
  · exact absurd rfl (hno _ _ _ _ _ _ _ _ _ h1 h2)
end Go.Proofs.Ytgebopmiefgdoaa

/-
  Contracts of record.Lines; a record's text and bytes, spoken of the record.
-/
import Derived.Test.YtgebopmiefgdoaaBuilder
import Derived.Test.YtgebopmiefgdoaaRecText2
import Derived.Test.YtgebopmiefgdoaaRecElem
import Derived.Test.YtgebopmiefgdoaaRecPut
namespace Go.Proofs.Ytgebopmiefgdoaa
open Go.RowKit
def Rec.txt (r : Rec) : List UInt8 := recL r.addr.toNat r.data.toNat r.read r.ba r.bs r.lic r.avma r.busy r.mine
def Rec.bytes (r : Rec) : List UInt8 := putL r.addr.toNat r.data.toNat r.read r.ba r.bs r.lic r.avma r.busy r.mine
def linesL (l : List Rec) : List UInt8 := l.flatMap fun r => r.txt ++ [10]
theorem Rec.txt_len (r : Rec) : r.txt.length = 17 := rfl
theorem linesL_len (l : List Rec) : (linesL l).length = 18 * l.length := by
  induction l with
  | nil => rfl
  | cons r l ih =>
    simp only [linesL, List.flatMap_cons, List.length_append, List.length_cons, List.length_nil, Rec.txt_len] at ih ⊢
    omega
theorem linesL_take (l : List Rec) (k : Nat) (r : Rec) (h : l[k]? = some r) : linesL (l.take (k + 1)) = linesL (l.take k) ++ r.txt ++ [10] := by
  obtain ⟨hk, rfl⟩ := List.getElem?_eq_some_iff.1 h
  rw [List.take_succ_eq_append_getElem hk]
  simp only [linesL, List.flatMap_append, List.flatMap_cons, List.flatMap_nil, List.append_nil, List.append_assoc]
theorem Rec.Good.nums {r : Rec} (g : r.Good) : ((r.addr.toNat : Nat) : Int) = r.addr ∧ ((r.data.toNat : Nat) : Int) = r.data ∧ r.addr.toNat < 65536 ∧ r.data.toNat < 256 := by
  have h1 := g.addr
  have h2 := g.data
  simp [IntKind.min, IntKind.max, IntKind.signed, IntKind.bits] at h1 h2
  omega
theorem RTextR_any (r : Rec) (g : r.Good) (w : World) :
    Calls Try.prog 96 #[.agg #[.int .u16 r.addr, .int .u8 r.data, .bool r.read, .bool r.ba, .bool r.bs, .bool r.lic, .bool r.avma, .bool r.busy, .bool r.mine]] w fun e w' => e = .returned (.string ⟨r.txt.toArray⟩) ∧ Below w.heap.size w w' := by
  obtain ⟨e1, e2, h1, h2⟩ := g.nums
  have h := RText_any r.addr.toNat r.data.toNat r.read r.ba r.bs r.lic r.avma r.busy r.mine w h1 h2
  rw [e1, e2] at h
  exact h
set_option maxRecDepth 100000 in
set_option maxHeartbeats 4000000 in
theorem Lines_any (ys : List Rec) (A : Option Addr) (n c B : Nat) (w : World) (hB : B ≤ w.heap.size) (hr : Reads w B 9 A n (recsV ys)) (hg : ∀ y ∈ ys, y.Good) (hn : n ≤ 1048576) :
    Calls Try.prog 98 #[.slice A n c] w fun e w' => e = .returned (.string ⟨(linesL ys).toArray⟩) ∧ Below w.heap.size w w' := by
  have hyl : ys.length = n := Reads.len Rec.cells_len (by omega) hr
  have HL := Lib.hid hyl
  have HG := Lib.hid hg
  clear hyl hg
  go_enter Try.func98, Try.ntmps98
  go_wp2
  go_loopw [8] (fun i wr => ∃ k : Nat, k ≤ n ∧ i = .int .i64 k ∧ IsB w.heap.size w.heap.size (linesL (ys.take k)) wr ∧ Below w.heap.size w wr) (fun i _ => n - (intOf i).toNat)
  case atStart => exact ⟨0, by omega, rfl, IsB.fresh w, below_alloc (Below.refl _ _) _⟩
  case round =>
    obtain ⟨k, hk, rfl, hb, hbl⟩ := hrel
    by_cases hlt : k < n
    · obtain ⟨ad, y, rfl, had, hy, hc⟩ := rec_at (hr.below (hbl.mono hB)) hlt
      have gy := HG.out y (List.mem_of_getElem? hy)
      have HT := Lib.hid (linesL_take ys k y hy)
      have hlen : (linesL (ys.take k)).length ≤ 18 * n := by rw [linesL_len, List.length_take]; omega
      have HTX := Lib.hid (RTextR_any y gy)
      have hlt' : (k : Int) < (n : Int) := by omega
      have hty := Rec.txt_len y
      have HC : Hid (∀ j v, ([.int .u16 y.addr, .int .u8 y.data, .bool y.read, .bool y.ba, .bool y.bs, .bool y.lic, .bool y.avma, .bool y.busy, .bool y.mine] : List Value)[j]? = some v → wr.cell? ((ad.add (k * 9)).add j) = some v) := hc
      have hbs := hbl.size
      clear hc hy gy
      go_wp2_with (first | (refine wpList_load_at rfl 64 (.tmp 10) rfl (ad.add (k * 9)) rfl [.int .u16 y.addr, .int .u8 y.data, .bool y.read, .bool y.ba, .bool y.bs, .bool y.lic, .bool y.avma, .bool y.busy, .bool y.mine] _ HC.out Try.underlying64 rfl (by kernel_rfl) ?_) | (refine wpList_load_row rfl 64 (.tmp 5) rfl wr.heap.size rfl 64 _ (0, 0) _ (Blk.new wr _ #[.int .u16 y.addr, .int .u8 y.data, .bool y.read, .bool y.ba, .bool y.bs, .bool y.lic, .bool y.avma, .bool y.busy, .bool y.mine]) Try.underlying64 rfl (by kernel_rfl) ?_) | fail)
      refine (HTX.out _).mono ?_
      rintro e w1 ⟨rfl, hb1⟩
      replace hb := (hb.below (below_alloc (Below.refl _ _) (.cells #[.int .u16 y.addr, .int .u8 y.data, .bool y.read, .bool y.ba, .bool y.bs, .bool y.lic, .bool y.avma, .bool y.busy, .bool y.mine] 64))).below hb1
      have hbl1 := below_then (below_alloc hbl _) hb1
      have hs1 := hbl1.size
      clear hb1
      go_wp2_with fail
      refine (WString w.heap.size w.heap.size (linesL (ys.take k)) y.txt w1 hb (by omega) hs1).mono ?_
      rintro e w2 ⟨⟨v2, rfl⟩, hb2, hbl2⟩
      have hs2 := (hbl1.trans hbl2).size
      go_wp2_with fail
      refine (WByte w.heap.size w.heap.size (linesL (ys.take k) ++ y.txt) 10 w2 hb2 (by rw [List.length_append]; omega) hs2).mono ?_
      rintro e w3 ⟨rfl, hb3, hbl3⟩
      go_wp2_with fail
      go_roundw
      case rel => exact ⟨k + 1, by omega, by go_num, by rw [HT.out]; exact hb3, (hbl1.trans hbl2).trans hbl3⟩
      case measure => simp [intOf]; omega
    · obtain rfl : k = n := by omega
      have hall : ys.take k = ys := List.take_of_length_le (by rw [HL.out]; exact Nat.le_refl _)
      rw [hall] at hb
      clear hall
      go_wp2_with fail
      refine (BString w.heap.size w.heap.size (linesL ys) wr hb hbl.size).mono ?_
      rintro e w4 ⟨rfl, hb4⟩
      go_wp2
      go_ret
      exact ⟨rfl, hbl.trans hb4⟩
end Go.Proofs.Ytgebopmiefgdoaa

/-
  Contracts of differ.side and differ.Report.
-/
import Derived.Test.YtgebopmiefgdoaaFields2
import Derived.Test.YtgebopmiefgdoaaDiffer
import Derived.Deep.RegionHeld3
namespace Go.Proofs.Ytgebopmiefgdoaa
open Go.RowKit
def sideO : Option Rec → List UInt8
  | none => [45]
  | some r => r.txt
def decL (i : Nat) : List UInt8 := ndig 10 (kd 10 i 1) i
def tailO : Option Rec → Option Rec → List UInt8
  | some x, some y => 32 :: fieldsL x y
  | _, _ => []
/-- A line of the report. -/
def lineL (i : Nat) (ox oy : Option Rec) : List UInt8 := decL i ++ [58, 32] ++ sideO ox ++ [32, 47, 32] ++ sideO oy ++ tailO ox oy ++ [10]
/-- The lines from place i on, f places, at most m of them. -/
def repF (xs ys : List Rec) : Nat → Nat → Nat → List UInt8
  | 0, _, _ => []
  | _ + 1, _, 0 => []
  | f + 1, i, m + 1 => if xs[i]? = ys[i]? then repF xs ys f (i + 1) (m + 1) else lineL i xs[i]? ys[i]? ++ repF xs ys f (i + 1) m
theorem repF_zero (xs ys : List Rec) (f i : Nat) : repF xs ys f i 0 = [] := by cases f <;> rfl
theorem sideO_len (o : Option Rec) : (sideO o).length ≤ 17 := by cases o <;> simp [sideO, Rec.txt_len]
theorem decL_len (i : Nat) (h : i < 18446744073709551616) : (decL i).length ≤ 20 := by
  unfold decL
  rw [ndig_length]
  exact (kd_spec 10 i 1 20 (by omega) (by omega) (by omega) (by omega)).2.2.1
theorem lineL_len (i : Nat) (ox oy : Option Rec) (h : i < 18446744073709551616) : (lineL i ox oy).length ≤ 1000 := by
  unfold lineL
  have h1 := decL_len i h
  have h2 := sideO_len ox
  have h3 := sideO_len oy
  have h4 : (tailO ox oy).length ≤ 901 := by
    unfold tailO
    split
    · rename_i x y
      have := fieldsL_len x y
      simp only [List.length_cons]
      omega
    · simp
  simp only [List.length_append, List.length_cons, List.length_nil]
  omega
theorem repF_skip (xs ys : List Rec) (f i : Nat) (q : Int) (hq : 0 < q) (h : xs[i]? = ys[i]?) : repF xs ys (f + 1) i q.toNat = repF xs ys f (i + 1) q.toNat := by
  obtain ⟨m, hm⟩ : ∃ m, q.toNat = m + 1 := ⟨q.toNat - 1, by omega⟩
  rw [hm]
  simp only [repF, if_pos h]
theorem repF_line (xs ys : List Rec) (f i : Nat) (q : Int) (hq : 0 < q) (h : xs[i]? ≠ ys[i]?) : repF xs ys (f + 1) i q.toNat = lineL i xs[i]? ys[i]? ++ repF xs ys f (i + 1) (q - 1).toNat := by
  obtain ⟨m, hm⟩ : ∃ m, q.toNat = m + 1 := ⟨q.toNat - 1, by omega⟩
  rw [hm, show (q - 1).toNat = m by omega]
  simp only [repF, if_neg h]
theorem eql_rec (x y : Rec) (W : World) : (binOp .eql 64 (.agg #[.int .u16 x.addr, .int .u8 x.data, .bool x.read, .bool x.ba, .bool x.bs, .bool x.lic, .bool x.avma, .bool x.busy, .bool x.mine]) (.agg #[.int .u16 y.addr, .int .u8 y.data, .bool y.read, .bool y.ba, .bool y.bs, .bool y.lic, .bool y.avma, .bool y.busy, .bool y.mine])).run Try.prog W = .ok (.bool (decide (x = y))) W := by
  have hu := Try.underlying64
  have hu16 := Try.underlying22
  have hu8 := Try.underlying5
  have hb := Try.underlying4
  have hst : Try.prog.stoodInHeld 64 = false := by kernel_rfl
  rw [run_eql_struct, run_equalIn_agg W 9999 _ _ _ (by rw [Program.fieldsOf, hu]) hst]
  rw [Program.fieldsOf, hu]
  simp [Op.eqFields, go_sem]
  cases x
  cases y
  simp only [Rec.mk.injEq]
  repeat' split
  all_goals simp_all
theorem WStringE (B b : Nat) (l : List UInt8) (s : ByteArray) (m : List UInt8) (w : World) (hs : s = ⟨m.toArray⟩) (h : IsB B b l w) (hlen : l.length + m.length ≤ 140737488355328) (hBw : B ≤ w.heap.size) :
    Calls Try.prog 122 #[.pointer (some ⟨b, 0, none⟩), .string s] w fun e w' => (∃ v, e = .returned v) ∧ IsB B b (l ++ m) w' ∧ Below B w w' := by
  subst hs
  exact WString B b l m w h hlen hBw
theorem Dec_decL (n : Nat) (w : World) (hn : n < 18446744073709551616) :
    Calls Try.prog 75 #[.int .u64 n] w fun e w' => e = .returned (.string ⟨(decL n).toArray⟩) ∧ Below w.heap.size w w' := Dec_any n w hn
set_option maxRecDepth 100000 in
set_option maxHeartbeats 4000000 in
theorem side_any (ys : List Rec) (A : Option Addr) (n c B k : Nat) (w : World) (hr : Reads w B 9 A n (recsV ys)) (hg : ∀ y ∈ ys, y.Good) (hn : n ≤ 1048576) (hk : k ≤ 1048576) :
    Calls Try.prog 125 #[.slice A n c, .int .i64 k] w fun e w' => e = .returned (.string ⟨(sideO ys[k]?).toArray⟩) ∧ Below w.heap.size w w' := by
  have hyl : ys.length = n := Reads.len Rec.cells_len (by omega) hr
  by_cases hlt : k < n
  · obtain ⟨ad, y, rfl, had, hy, hc⟩ := rec_at hr hlt
    have gy := hg y (List.mem_of_getElem? hy)
    have HTX := Lib.hid (RTextR_any y gy)
    have hlt' : (k : Int) < (n : Int) := by omega
    rw [hy]
    have HC : Hid (∀ j v, ([.int .u16 y.addr, .int .u8 y.data, .bool y.read, .bool y.ba, .bool y.bs, .bool y.lic, .bool y.avma, .bool y.busy, .bool y.mine] : List Value)[j]? = some v → w.cell? ((ad.add (k * 9)).add j) = some v) := hc
    clear hc hy gy hg hyl
    go_enter Try.func125, Try.ntmps125
    go_wp2_with (first | (refine wpList_load_at rfl 64 (.tmp 11) rfl (ad.add (k * 9)) rfl [.int .u16 y.addr, .int .u8 y.data, .bool y.read, .bool y.ba, .bool y.bs, .bool y.lic, .bool y.avma, .bool y.busy, .bool y.mine] _ HC.out Try.underlying64 rfl (by kernel_rfl) ?_) | (go_at_call 96; with_reducible refine (HTX.out _).mono ?_; rintro e w1 ⟨rfl, hb1⟩))
    go_ret
    exact ⟨rfl, hb1⟩
  · rw [List.getElem?_eq_none (by omega)]
    have hge : (n : Int) ≤ (k : Int) := by omega
    clear hg hyl hr
    go_enter Try.func125, Try.ntmps125
    go_wp2
    go_ret
    exact ⟨rfl, Below.refl _ _⟩
end Go.Proofs.Ytgebopmiefgdoaa

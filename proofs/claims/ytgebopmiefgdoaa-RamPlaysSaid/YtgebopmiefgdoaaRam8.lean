/-
  Contracts of ram.Used (its closure, slices.IndexFunc, slices.ContainsFunc) and of ram.Copy.
-/
import Derived.Test.YtgebopmiefgdoaaRam7
import Derived.Test.YtgebopmiefgdoaaRecElem
import Derived.Test.YtgebopmiefgdoaaQueue3
namespace Go.Proofs.Ytgebopmiefgdoaa
open Go.RowKit
section
variable {P : Program}
theorem run_index_arr (w : World) (t e : TypeId) (cs : Array Value) (i n : Nat) (v : Value) (hu : P.underlying t = some (.array n e)) (d : TypeDesc) (hd : P.underlying e = some d) (hr : d.isRow = false) (hs : (P.info? e).map (·.size) = some 1) (hi : i < n) (hv : cs[i]? = some v) :
    (Instr.index t (.agg cs) (.int .i64 (i : Int))).run P w = .ok v w := by
  have hagg : (isAgg e).run P w = .ok false w := by
    unfold isAgg
    rw [Sem.run_bind, run_underlying hd w]
    cases d <;> simp_all
  cases hq : P.info? e with
  | none => simp [hq] at hs
  | some k =>
    have hk : k.size = 1 := by simpa [hq] using hs
    have h1 : (0 : Int) ≤ i ∧ (i : Int) < n := by omega
    simp [Instr.index, asIntOf, Sem.run_bind, run_underlying hu, h1, part, hagg, sizeOf, typeInfo, hq, hk, hv, hi]
end
set_option maxRecDepth 100000 in
theorem UsedF_any (x : Int) (w : World) : Calls Try.prog 120 #[.int .u8 x] w fun e w' => e = .returned (.bool (x != 0)) ∧ w = w' := by
  go_enter Try.func120, Try.ntmps120
  go_wp2
  go_ret
  exact ⟨rfl, rfl⟩
/-- The first byte that is not 0. -/
def firstNZ (l : List UInt8) (w : World) (e : Ending) (w' : World) : Prop := (∃ k : Int, e = .returned (.int .i64 k) ∧ ((0 ≤ k) ↔ ∃ c ∈ l, c ≠ 0)) ∧ w = w'
set_option maxRecDepth 100000 in
set_option maxHeartbeats 4000000 in
theorem IndexF_any (l : List UInt8) (A : Option Addr) (n c B : Nat) (w : World) (hr : Reads w B 1 A n (bytesV l)) (hn : n ≤ 65536) :
    Calls Try.prog 129 #[.slice A n c, .func (.func 120) #[] #[]] w (firstNZ l w) := by
  have hln : l.length = n := by simpa [bytesV] using hr.1
  have HLN := Lib.hid hln
  clear hln
  go_enter Try.func129, Try.ntmps129
  go_wp2
  go_loop [5, 8] (fun _ i => ∃ k : Nat, k ≤ n ∧ i = .int .i64 k ∧ ∀ c ∈ l.take k, c = 0) (fun _ i => n - (intOf i).toNat)
  case atStart => exact ⟨0, by omega, rfl, by simp⟩
  case round =>
    obtain ⟨k, hk, rfl, hz⟩ := hrel
    have HZ := Lib.hid hz
    clear hz
    by_cases hlt : k < n
    · obtain ⟨ad, u, rfl, hab, hu, hcell⟩ := hr.at_ hlt
      obtain ⟨x, hx, rfl⟩ := bytesV_get l k u hu
      have HX := Lib.hid hx
      clear hx hu
      by_cases hx0 : x = 0
      · subst hx0
        have HN : Hid (∀ c ∈ l.take (k + 1), c = 0) := by
          show ∀ c ∈ l.take (k + 1), c = 0
          intro c hc
          rw [List.take_add_one, HX.out] at hc
          simp only [Option.toList_some, List.mem_append, List.mem_singleton] at hc
          rcases hc with hc | hc
          · exact HZ.out c hc
          · exact hc
        have hc0 : (((0 : UInt8).toNat : Int) != 0) = false := rfl
        go_wp2_with ((go_at_call 120; refine (UsedF_any _ _).mono ?_; rintro e w1 ⟨rfl, rfl⟩))
        go_round
        case rel => exact ⟨k + 1, by omega, by go_num, HN.out⟩
        case measure => simp [intOf]; omega
      · have hc0 : (((x.toNat : Nat) : Int) != 0) = true := by
          rw [bne_iff_ne]
          intro e
          exact hx0 (UInt8.toNat_inj.1 (by simpa using e))
        have HE : Hid ((0 ≤ (k : Int)) ↔ ∃ c ∈ l, c ≠ 0) := by
          show (0 ≤ (k : Int)) ↔ ∃ c ∈ l, c ≠ 0
          exact ⟨fun _ => ⟨x, List.mem_of_getElem? HX.out, hx0⟩, fun _ => by omega⟩
        go_wp2_with ((go_at_call 120; refine (UsedF_any _ _).mono ?_; rintro e w1 ⟨rfl, rfl⟩))
        go_ret
        exact ⟨⟨_, rfl, HE.out⟩, rfl⟩
    · obtain rfl : k = n := by omega
      have HE : Hid ((0 ≤ (-1 : Int)) ↔ ∃ c ∈ l, c ≠ 0) := by
        show (0 ≤ (-1 : Int)) ↔ ∃ c ∈ l, c ≠ 0
        refine ⟨fun h => absurd h (by omega), fun ⟨c, hc, h0⟩ => absurd (HZ.out c ?_) h0⟩
        rwa [List.take_of_length_le (by rw [HLN.out]; exact Nat.le_refl _)]
      go_wp2
      go_ret
      exact ⟨⟨_, rfl, HE.out⟩, rfl⟩
/-- Has the row a byte that is not 0? -/
def hasNZ (l : List UInt8) (w : World) (e : Ending) (w' : World) : Prop := (∃ b : Bool, e = .returned (.bool b) ∧ (b = true ↔ ∃ c ∈ l, c ≠ 0)) ∧ w = w'
set_option maxRecDepth 100000 in
set_option maxHeartbeats 4000000 in
theorem ContainsF_any (l : List UInt8) (A : Option Addr) (n c B : Nat) (w : World) (hr : Reads w B 1 A n (bytesV l)) (hn : n ≤ 65536) :
    Calls Try.prog 119 #[.slice A n c, .func (.func 120) #[] #[]] w (hasNZ l w) := by
  have HI := Lib.hid (IndexF_any l A n c B w hr hn)
  clear hr
  go_enter Try.func119, Try.ntmps119
  go_wp2_with fail
  refine HI.out.mono ?_
  rintro e w1 ⟨⟨k, rfl, hk⟩, rfl⟩
  have HK := Lib.hid hk
  clear hk
  go_wp2
  go_ret
  refine ⟨⟨_, rfl, ?_⟩, rfl⟩
  rw [← HK.out]
  simp
/-- Does a page have a byte that is not 0? -/
def pageNZ (m : Nat → UInt8) (i : Nat) : Bool := (List.range 256).any fun j => m (256 * i + j) != 0
/-- The first k pages' numbers, of those that have. -/
def usedN (m : Nat → UInt8) (k : Nat) : List Int := ((List.range k).filter (pageNZ m)).map fun i : Nat => (i : Int)
theorem usedN_succ (m : Nat → UInt8) (k : Nat) : usedN m (k + 1) = usedN m k ++ if pageNZ m k then [(k : Int)] else [] := by
  unfold usedN
  rw [List.range_succ, List.filter_append, List.map_append]
  cases h : pageNZ m k <;> simp [h]
theorem usedN_len (m : Nat → UInt8) (k : Nat) : (usedN m k).length ≤ k := by
  unfold usedN
  rw [List.length_map]
  exact Nat.le_trans (List.length_filter_le _ _) (by simp)
theorem pageNZ_iff (m : Nat → UInt8) (i : Nat) : pageNZ m i = true ↔ ∃ j, j < 256 ∧ m (256 * i + j) ≠ 0 := by
  simp [pageNZ]
/-- A page, as a slice that is read. -/
def pgA : Option Nat → Option Addr
  | none => none
  | some b => some ⟨b, 0, none⟩
def pgN : Option Nat → Nat
  | none => 0
  | some _ => 256
def pgL (m : Nat → UInt8) (i : Nat) : Option Nat → List UInt8
  | none => []
  | some _ => (List.range 256).map fun j => m (256 * i + j)
def pgC (c : Nat) : Option Nat → Nat
  | none => 0
  | some _ => c
theorem pv_eq (c : Nat) (p : Option Nat) : pv c p = .slice (pgA p) (pgN p) (pgC c p) := by cases p <;> rfl
theorem pgN_le (p : Option Nat) : pgN p ≤ 256 := by cases p <;> simp [pgN]
theorem RamAt.pageReads {B g : Nat} {m : Nat → UInt8} {rom : Int} {pb : Nat → Option Nat} {cs : Array Value} {w : World} (h : RamAt B g m rom pb cs w) (i : Nat) (hi : i < 256) :
    Reads w w.heap.size 1 (pgA (pb i)) (pgN (pb i)) (bytesV (pgL m i (pb i))) := by
  cases hp : pb i with
  | none => exact Reads.none_
  | some b =>
    obtain ⟨⟨ps, h1, h4⟩, _, _⟩ := h.page i b hi hp
    refine ⟨by simp [bytesV, pgL, pgN], fun _ => ⟨_, rfl, h1.lt, fun j u hu => ?_⟩⟩
    rw [addr_add0, h1.cell j]
    have hj : j < 256 := by
      have := (List.getElem?_eq_some_iff.1 hu).1
      simpa [bytesV, pgL] using this
    rw [h4 j hj, ← hu]
    simp [bytesV, pgL, hj]
theorem RamAt.pageHas {B g : Nat} {m : Nat → UInt8} {rom : Int} {pb : Nat → Option Nat} {cs : Array Value} {w : World} (h : RamAt B g m rom pb cs w) (i : Nat) (hi : i < 256) :
    (∃ c ∈ pgL m i (pb i), c ≠ 0) ↔ pageNZ m i = true := by
  rw [pageNZ_iff]
  cases hp : pb i with
  | none =>
    have hz := h.nilp i hi hp
    simp only [pgL, List.not_mem_nil, false_and, exists_false, false_iff]
    rintro ⟨j, hj, h0⟩
    exact h0 (hz j hj)
  | some b =>
    simp only [pgL, List.mem_map, List.mem_range]
    constructor
    · rintro ⟨c, ⟨j, hj, rfl⟩, h0⟩
      exact ⟨j, hj, h0⟩
    · rintro ⟨j, hj, h0⟩
      exact ⟨_, ⟨j, hj, rfl⟩, h0⟩
/-- All pages' slices, as they are read at once. -/
theorem RamAt.arr {B g : Nat} {m : Nat → UInt8} {rom : Int} {pb : Nat → Option Nat} {cs : Array Value} {w : World} (h : RamAt B g m rom pb cs w) :
    ∃ L : List Value, L.length = 256 ∧ (∀ i, i < 256 → ∃ c, 256 ≤ c ∧ L.toArray[i]? = some (pv c (pb i))) ∧ ∀ j v, L[j]? = some v → w.cell? ((⟨g, 0, none⟩ : Addr).add j) = some v := by
  refine ⟨cs.toList.take 256, by simp [h.size], fun i hi => ?_, fun j v hv => ?_⟩
  · obtain ⟨c, hc, he⟩ := h.cell i hi
    refine ⟨c, hc, ?_⟩
    rw [List.getElem?_toArray, List.getElem?_take, if_pos hi]
    simpa using he
  · rw [addr_add0, h.blk.cell j]
    rw [List.getElem?_take] at hv
    split at hv
    · simpa using hv
    · cases hv
set_option maxRecDepth 100000 in
set_option maxHeartbeats 4000000 in
theorem Used_any {B g : Nat} {m : Nat → UInt8} {rom : Int} {pb : Nat → Option Nat} {cs : Array Value} (w : World) (h : RamAt B g m rom pb cs w) :
    Calls Try.prog 93 #[.pointer (some ⟨g, 0, none⟩)] w fun e w' => ∃ v, e = .returned v ∧ w'.ownsRow w.heap.size 3 1 v (usedN m 256).length (intsV (usedN m 256)) ∧ Below w.heap.size w w' := by
  obtain ⟨i0, hi, hz0, hz1, hz2⟩ := info_parts info_int
  obtain ⟨L, hL, hLi, hLc⟩ := h.arr
  have hsz : (Try.prog.info? 158).map (·.size) = some L.length := by rw [hL]; kernel_rfl
  have HIX : Hid (∀ (i : Nat), i < 256 → ∃ c, 256 ≤ c ∧ ∀ W : World, (Instr.index 158 (.agg L.toArray) (.int .i64 (i : Int))).run Try.prog W = .ok (pv c (pb i)) W) := by
    show ∀ (i : Nat), i < 256 → ∃ c, 256 ≤ c ∧ ∀ W : World, (Instr.index 158 (.agg L.toArray) (.int .i64 (i : Int))).run Try.prog W = .ok (pv c (pb i)) W
    intro i hi
    obtain ⟨c, hc, he⟩ := hLi i hi
    exact ⟨c, hc, fun W => run_index_arr W _ _ _ i 256 _ Try.underlying158 _ Try.underlying37 rfl (by kernel_rfl) hi he⟩
  have HH := Lib.hid h
  clear h hLi
  go_enter Try.func93, Try.ntmps93
  go_wp2_with (with_reducible refine wpList_load_at rfl 158 (.tmp 8) rfl ⟨g, 0, none⟩ rfl L _ hLc Try.underlying158 rfl hsz ?_)
  clear hLc hsz hL
  generalize L.toArray = LA at *
  go_loopw [3, 4, 5, 10] (fun v _ _ i wr => ∃ k : Nat, k ≤ 256 ∧ i = .int .i64 k ∧ wr.ownsRow w.heap.size 3 1 v (usedN m k).length (intsV (usedN m k)) ∧ Below w.heap.size w wr) (fun _ _ _ i _ => 256 - (intOf i).toNat)
  case atStart => exact ⟨0, by omega, rfl, by simpa [usedN, intsV] using own_nil w w.heap.size 3 1, Below.refl _ _⟩
  case round =>
    obtain ⟨k, hk, rfl, hown, hbl⟩ := hrel
    by_cases hlt : k < 256
    · obtain ⟨cp, hcp, hixW⟩ := HIX.out k hlt
      have hix := hixW wr
      clear hixW
      have hR := HH.out.below hbl
      have hrd := hR.pageReads k hlt
      have HHas := Lib.hid (hR.pageHas k hlt)
      have hple := pgN_le (pb k)
      rw [pv_eq] at hix
      have HT := Lib.hid (usedN_succ m k)
      have HLE := Lib.hid (usedN_len m k)
      clear hR
      generalize pgA (pb k) = pA at *
      generalize pgN (pb k) = pN at *
      generalize pgC cp (pb k) = pC at *
      generalize pgL m k (pb k) = pL at *
      have hlt' : (k : Int) < 256 := by omega
      go_wp2_with fail
      refine (ContainsF_any pL pA pN pC _ wr hrd (by omega)).mono ?_
      rintro e w1 ⟨⟨b, rfl, hb⟩, rfl⟩
      have hbz : b = pageNZ m k := by
        rw [Bool.eq_iff_iff, hb]
        exact HHas.out
      have HBZ := Lib.hid hbz
      clear hb hbz hrd HHas hix
      cases b with
      | true =>
        have hs := hbl.size
        have hnew : Reads (wr.alloc (.cells #[.int .i64 (k : Int)] 3)) (wr.heap.size + 1) 1 (some ⟨wr.heap.size, 0, none⟩) 1 (intsV [(k : Int)]) := Reads.new1 wr _ _ 1 _ rfl (Nat.lt_succ_self _)
        have HE : Hid (usedN m (k + 1) = usedN m k ++ [(k : Int)]) := by
          show usedN m (k + 1) = usedN m k ++ [(k : Int)]
          rw [HT.out, ← HBZ.out]; rfl
        have hle := HLE.out
        generalize usedN m k = U at *
        generalize hUl : U.length = ul at *
        go_wp2_with ((at_builtin; refine wpList_append_any _ rfl (.tmp 16) (.tmp 18) 83 rfl w.heap.size 3 i0 (.int .i64 0) 1 8 Try.underlying83 hi hz0 hz1 hz2 rfl (by omega) _ ul (intsV U) rfl (hown.alloc _) (wr.heap.size + 1) (some ⟨wr.heap.size, 0, none⟩) 1 1 (intsV [(k : Int)]) rfl hnew (intsV_one _) (by simp only [maxLen]; omega) (by omega) (Nat.le_trans hs (by simp)) ?_; intro v1 w2 hown2 hg2 hat2))
        go_roundw
        case rel => exact ⟨k + 1, by omega, by go_num, by rw [HE.out]; simpa [intsV, hUl] using hown2, below_own (below_alloc' hbl) (hown.alloc _) hg2 (Nat.le_trans hs (by simp))⟩
        case measure => simp [intOf]; omega
      | false =>
        have HE : Hid (usedN m (k + 1) = usedN m k) := by
          show usedN m (k + 1) = usedN m k
          rw [HT.out, ← HBZ.out]; simp
        go_wp2_with fail
        go_roundw
        case rel => exact ⟨k + 1, by omega, by go_num, by rw [HE.out]; exact hown, hbl⟩
        case measure => simp [intOf]; omega
    · obtain rfl : k = 256 := by omega
      go_wp2
      go_ret
      exact ⟨_, rfl, hown, hbl⟩
set_option maxRecDepth 100000 in
set_option maxHeartbeats 2000000 in
theorem CloneB_any (xs : List UInt8) (A : Option Addr) (n c B : Nat) (w : World) (hr : Reads w B 1 A n (bytesV xs)) (hB : B ≤ w.heap.size) (hn : n ≤ 4294967296) :
    Calls Try.prog 115 #[.slice A n c] w fun e w' => ∃ v, e = .returned v ∧ w'.ownsRow w.heap.size 5 1 v n (bytesV xs) ∧ Below w.heap.size w w' := by
  obtain ⟨i0, hi, hz0, hz1, hz2⟩ := info_parts info_u8
  rcases A with _ | ad
  · obtain rfl : n = 0 := by
      rcases Nat.eq_zero_or_pos n with h | h
      · exact h
      · obtain ⟨ad, e, _⟩ := hr.2 h
        cases e
    have hx : bytesV xs = [] := List.eq_nil_of_length_eq_zero (by simpa using hr.1)
    rw [hx]
    have he : ∀ W : World, (binOp .eql 37 (.slice none 0 c) (.slice none 0 0)).run Try.prog W = .ok (.bool true) W := fun _ => rfl
    go_enter Try.func115, Try.ntmps115
    go_wp2
    go_ret
    exact ⟨_, rfl, own_nil _ _ _ _, Below.refl _ _⟩
  · have hone := bytesV_one xs
    have he : ∀ W : World, (binOp .eql 37 (.slice (some ad) n c) (.slice none 0 0)).run Try.prog W = .ok (.bool false) W := fun _ => rfl
    have hr' : Reads (w.alloc (.cells #[] 5)) B 1 (some ad) n (bytesV xs) := hr.keep fun p hp => Below.cell (B := w.heap.size) ((Below.refl _ w).alloc (Nat.le_refl _) _) (by omega)
    have hown : (w.alloc (.cells #[] 5)).ownsRow w.heap.size 5 1 (.slice (some ⟨w.heap.size, 0, none⟩) 0 0) 0 [] := World.ownsRow_made w #[] 0 (Nat.le_refl _) (by simp [maxLen]) rfl
    go_enter Try.func115, Try.ntmps115
    go_wp2_with (first | (at_builtin; refine wpList_append_any _ rfl (.tmp 5) (.tmp 6) 37 rfl w.heap.size 5 i0 (.int .u8 0) 1 1 Try.underlying37 hi hz0 hz1 hz2 rfl (by omega) _ 0 [] rfl hown B (some ad) n c (bytesV xs) rfl hr' hone (by simp only [maxLen]; omega) (by omega) (by simp) ?_; intro v1 w1 hown1 hg1 hat1))
    go_ret
    refine ⟨_, rfl, by simpa using hown1, below_own ((Below.refl _ w).alloc (Nat.le_refl _) _) hown hg1 (by simp)⟩
/-- A copy that is under way: the first k pages have been copied. -/
def cutK (k : Nat) (m : Nat → UInt8) : Nat → UInt8 := fun a => if a < 256 * k then m a else 0
theorem own_page {w : World} {base : Nat} {v : Value} {m : Nat → UInt8} {i : Nat} (h : w.ownsRow base 5 1 v 256 (bytesV ((List.range 256).map fun j => m (256 * i + j)))) :
    ∃ b c ps, v = .slice (some ⟨b, 0, none⟩) 256 c ∧ 256 ≤ c ∧ base ≤ b ∧ Blk w b 5 ps ∧ ∀ j, j < 256 → ps[j]? = some (.int .u8 ((m (256 * i + j)).toNat : Int)) := by
  rcases h.2 with ⟨_, h0⟩ | ⟨g, cap, cur, rfl, hb, hg, hnc, _, hs, ht⟩
  · exact absurd h0 (by omega)
  · refine ⟨g, cap, cur, rfl, hnc, hb, hg, fun j hj => ?_⟩
    have h1 : (cur.toList.take (256 * 1))[j]? = some (.int .u8 ((m (256 * i + j)).toNat : Int)) := by
      rw [ht]
      simp [bytesV, hj]
    rw [List.getElem?_take, if_pos (by omega)] at h1
    simpa using h1
theorem own_page0 {w : World} {base : Nat} {v : Value} (h : w.ownsRow base 5 1 v 0 []) : v = .slice none 0 0 ∨ ∃ b c, v = .slice (some ⟨b, 0, none⟩) 0 c := by
  rcases h.2 with ⟨rfl, _⟩ | ⟨g, cap, cur, rfl, _⟩
  · exact .inl rfl
  · exact .inr ⟨_, _, rfl⟩
end Go.Proofs.Ytgebopmiefgdoaa

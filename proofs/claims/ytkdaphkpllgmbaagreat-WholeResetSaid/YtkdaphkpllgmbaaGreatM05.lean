/-
  A row of 65536 bytes in a block of its own; a copy into it; the law's image.
  The builtin copy at elements of several cells, as laws of the walk. No function of the program.
-/
import Derived.Test.YtkdaphkpllgmbaaGreatM01
import Derived.Laws.CopyOwn
import Derived.Deep.RegionLaw
import Derived.Deep.CutBlock
import Derived.Test.YtkdaphkpllgmbaaGreatM04
namespace Go.Proofs.YtkdaphkpllgmbaaGreat
open Go.RowKit
set_option linter.unusedVariables false
set_option linter.unusedSimpArgs false
/-- Block g is a row of 65536 bytes, m. -/
structure MemAt (g : Nat) (m : Nat → UInt8) (w : World) : Prop where
  blk : ∃ cs : Array Value, Blk w g 5 cs ∧ cs.size = 65536 ∧ ∀ k, k < 65536 → cs[k]? = some (.int .u8 ((m k).toNat : Int))
section
variable {g : Nat} {m : Nat → UInt8} {w w' : World}
theorem MemAt.lt (h : MemAt g m w) : g < w.heap.size := by
  obtain ⟨cs, h1, _⟩ := h.blk
  exact h1.lt
theorem MemAt.cell (h : MemAt g m w) {k : Nat} (hk : k < 65536) : w.cell? ⟨g, k, none⟩ = some (.int .u8 ((m k).toNat : Int)) := by
  obtain ⟨cs, h1, _, h3⟩ := h.blk
  exact (h1.cell k).trans (h3 k hk)
theorem MemAt.frozen (h : MemAt g m w) (k : Nat) : w.frozen? ⟨g, k, none⟩ = false := by
  obtain ⟨cs, h1, _⟩ := h.blk
  exact h1.frozen k
theorem MemAt.same (h : MemAt g m w) (hs : w'.heap[g]? = w.heap[g]?) : MemAt g m w' := by
  obtain ⟨cs, h1, h2, h3⟩ := h.blk
  exact ⟨cs, hs.trans h1, h2, h3⟩
theorem MemAt.below (h : MemAt g m w) (hb : Below w.heap.size w w') : MemAt g m w' := h.same (hb.block g h.lt)
theorem MemAt.set_ (h : MemAt g m w) {a : Nat} (ha : a < 65536) (x : UInt8) : MemAt g (upd m a x) (w.setCell ⟨g, a, none⟩ (.int .u8 (x.toNat : Int))) := by
  obtain ⟨cs, h1, h2, h3⟩ := h.blk
  refine ⟨_, h1.set_ a _, by rw [Array.size_setIfInBounds]; exact h2, fun k hk => ?_⟩
  by_cases hka : k = a
  · subst hka
    rw [Array.getElem?_setIfInBounds_self_of_lt (by omega)]
    simp [upd]
  · rw [Array.getElem?_setIfInBounds_ne (fun e => hka e.symm)]
    simp only [upd, if_neg hka]
    exact h3 k hk
theorem MemAt.congr {m' : Nat → UInt8} (h : MemAt g m w) (hm : ∀ k, k < 65536 → m' k = m k) : MemAt g m' w := by
  obtain ⟨cs, h1, h2, h3⟩ := h.blk
  exact ⟨cs, h1, h2, fun k hk => by rw [hm k hk]; exact h3 k hk⟩
theorem MemAt.reads (h : MemAt g m w) (a n : Nat) (hn : a + n ≤ 65536) : Reads w w.heap.size 1 (some ⟨g, a, none⟩) n (bytesV ((List.range n).map fun j => m (a + j))) := by
  refine ⟨by simp [bytesV], fun _ => ⟨_, rfl, h.lt, fun j u hu => ?_⟩⟩
  have hj : j < n := by
    have := (List.getElem?_eq_some_iff.1 hu).1
    simpa [bytesV] using this
  rw [addr_addn, h.cell (by omega), ← hu]
  simp [bytesV, hj]
end
theorem slice_from (gl l N : Nat) (h1 : l < N) (W : World) : (Instr.slice 24 (.slice (some ⟨gl, 0, none⟩) N N) (some (.int .i64 (l : Int))) none none).run Tryz.prog W = .ok (.slice (some ⟨gl, l, none⟩) (N - l) (N - l)) W := by
  have hu : Tryz.prog.underlying 24 = some (.slice (Tryz.prog.elem 24)) := by kernel_rfl
  have hs : (sizeOf (Tryz.prog.elem 24)).run Tryz.prog W = .ok 1 W := by kernel_rfl
  rw [run_slice_l W 24 _ N N hu .i64 _ (by omega) (by omega), hs]
  simp only [Result.andThen, sliced, Int.toNat_natCast]
  rw [if_neg (by omega)]
  simp [addr_add0]
section
variable {P : Program}
/-- A copy into the row. -/
theorem run_copy_mem (w : World) (dT sT ty : TypeId) (hu : Tryz.prog.underlying dT = some (.slice 5)) (g o dLen dCap : Nat) (A : Option Addr) (n c B : Nat) (l : List UInt8) (m : Nat → UInt8) (hm : MemAt g m w) (hr : Reads w B 1 A n (bytesV l)) (hn : n ≤ dLen) (ho : o + n ≤ 65536) :
    ∃ w', (Builtin.copy_ #[dT, sT] ty #[.slice (some ⟨g, o, none⟩) dLen dCap, .slice A n c]).run Tryz.prog w = .ok (goInt (n : Int)) w' ∧ MemAt g (updL m o l) w' ∧ w'.heap.size = w.heap.size ∧ w'.os = w.os ∧ w'.tape = w.tape ∧ w'.output = w.output ∧ ∀ q, q ≠ g → w'.heap[q]? = w.heap[q]? := by
  have hl : l.length = n := by simpa [bytesV] using hr.1
  have hsz : (Tryz.prog.info? 5).map (·.size) = some 1 := by kernel_rfl
  rcases Nat.eq_zero_or_pos n with h0 | h0
  · subst h0
    obtain rfl := List.eq_nil_of_length_eq_zero hl
    refine ⟨w, ?_, by rw [updL_nil]; exact hm, rfl, rfl, rfl, rfl, fun _ _ => rfl⟩
    exact run_copy_none w dT sT ty _ _ _ dLen dCap 0 c hu hsz (by simp)
  · obtain ⟨ad, rfl, _, hc⟩ := hr.2 h0
    obtain ⟨cs, h1, h2, h3⟩ := hm.blk
    have hln : (bytesV l).length = n := by simp [bytesV, hl]
    have hrun := run_copy_row (P := Tryz.prog) w dT sT ty _ g o dLen dCap ad n c cs 5 (bytesV l) hu hsz h1 (by rw [hln]; exact (Nat.min_eq_left hn).symm) hc (by rw [hln, h2]; exact ho) (bytesV_one l)
    rw [hln] at hrun
    refine ⟨_, hrun, ⟨_, setRow_heap w g _ _ _ _ h1, ?_, fun k hk => ?_⟩, by simp, rfl, rfl, rfl, fun q hq => setRow_other w g q _ hq⟩
    · simp only [List.size_toArray, List.length_append, List.length_take, List.length_drop, Array.length_toList, hln, h2]
      omega
    · simp only [List.getElem?_toArray]
      have ht : (cs.toList.take o).length = o := by rw [List.length_take, Array.length_toList, h2]; omega
      unfold updL
      by_cases hin : o ≤ k ∧ k < o + l.length
      · rw [if_pos hin, List.append_assoc, List.getElem?_append_right (by omega), ht, List.getElem?_append_left (by omega)]
        have hk2 : k - o < l.length := by omega
        simp [bytesV, List.getElem?_eq_getElem hk2]
      · rw [if_neg hin]
        by_cases hlo : k < o
        · rw [List.append_assoc, List.getElem?_append_left (by omega), List.getElem?_take, if_pos hlo]
          simpa using h3 k hk
        · rw [List.getElem?_append_right (by rw [List.length_append, ht, hln]; omega), List.length_append, ht, hln, List.getElem?_drop]
          rw [show o + n + (k - (o + n)) = k by omega]
          simpa using h3 k hk
theorem wp_copy_mem {o : Oper} {a : Act} {w : World} {K : Act → World → Prop} {Q : Exit → Act → World → Prop} (d s : Operand) (dT sT : TypeId)
    (ho : o.op = .call { callee := .builtin .copy, args := #[d, s], argTypes := #[dT, sT] }) (hu : Tryz.prog.underlying dT = some (.slice 5))
    (g off dLen dCap : Nat) (A : Option Addr) (n c B : Nat) (hd : a.eval d = .slice (some ⟨g, off, none⟩) dLen dCap) (hs : a.eval s = .slice A n c) (l : List UInt8) (m : Nat → UInt8) (hm : MemAt g m w) (hr : Reads w B 1 A n (bytesV l)) (hn : n ≤ dLen) (hoo : off + n ≤ 65536)
    (h : ∀ w', MemAt g (updL m off l) w' → w'.heap.size = w.heap.size → w'.os = w.os → w'.tape = w.tape → w'.output = w.output → Hid (∀ q, q ≠ g → w'.heap[q]? = w.heap[q]?) → K (a.put o.dst (goInt (n : Int))) w') : o.wp Tryz.prog a w K Q := by
  obtain ⟨w', hrun, h1, h2, h3, h4, h5, h6⟩ := run_copy_mem w dT sT o.type hu g off dLen dCap A n c B l m hm hr hn hoo
  unfold Oper.wp
  simp only [execOp, ho, resolve, invoke, builtin, Sem.run_bind, Sem.run_pure, Result.andThen_ok, List.map_toArray, List.map_cons, List.map_nil, hd, hs, hrun]
  exact h w' h1 h2 h3 h4 h5 h6
theorem wpList_copy_mem {ops : Array Oper} {rest : List Oper} {o : Oper} {a : Act} {w : World} {Q : Exit → Act → World → Prop} (hgd : o.guard = none) (d s : Operand) (dT sT : TypeId)
    (ho : o.op = .call { callee := .builtin .copy, args := #[d, s], argTypes := #[dT, sT] }) (hu : Tryz.prog.underlying dT = some (.slice 5))
    (g off dLen dCap : Nat) (A : Option Addr) (n c B : Nat) (hd : a.eval d = .slice (some ⟨g, off, none⟩) dLen dCap) (hs : a.eval s = .slice A n c) (l : List UInt8) (m : Nat → UInt8) (hm : MemAt g m w) (hr : Reads w B 1 A n (bytesV l)) (hn : n ≤ dLen) (hoo : off + n ≤ 65536)
    (h : ∀ w', MemAt g (updL m off l) w' → w'.heap.size = w.heap.size → w'.os = w.os → w'.tape = w.tape → w'.output = w.output → Hid (∀ q, q ≠ g → w'.heap[q]? = w.heap[q]?) → wpList Tryz.prog ops Q rest (a.put o.dst (goInt (n : Int))) w') : wpList Tryz.prog ops Q (o :: rest) a w :=
  wpList_plain hgd fun _ hK => wp_copy_mem d s dT sT ho hu g off dLen dCap A n c B hd hs l m hm hr hn hoo fun w' h1 h2 h3 h4 h5 h6 => hK _ _ (h w' h1 h2 h3 h4 h5 h6)
theorem step_copy_mem {ops : Array Oper} {o : Oper} {a : Act} {w : World} {K : Act → World → Prop} {Q : Exit → Act → World → Prop} {E : Prop} (hgd : o.guard = none) (d s : Operand) (dT sT : TypeId)
    (ho : o.op = .call { callee := .builtin .copy, args := #[d, s], argTypes := #[dT, sT] }) (hu : Tryz.prog.underlying dT = some (.slice 5))
    (g off dLen dCap : Nat) (A : Option Addr) (n c B : Nat) (hd : a.eval d = .slice (some ⟨g, off, none⟩) dLen dCap) (hs : a.eval s = .slice A n c) (l : List UInt8) (m : Nat → UInt8) (hm : MemAt g m w) (hr : Reads w B 1 A n (bytesV l)) (hn : n ≤ dLen) (hoo : off + n ≤ 65536)
    (h : ∀ w', MemAt g (updL m off l) w' → w'.heap.size = w.heap.size → w'.os = w.os → w'.tape = w.tape → w'.output = w.output → Hid (∀ q, q ≠ g → w'.heap[q]? = w.heap[q]?) → K (a.put o.dst (goInt (n : Int))) w') :
    if Region.wanted o (yielded ops a.tmps) = true then Oper.wp Tryz.prog o a w K Q else E := by
  have hw : Region.wanted o (yielded ops a.tmps) = true := by simp [Region.wanted, hgd]
  rw [if_pos hw]
  exact wp_copy_mem d s dT sT ho hu g off dLen dCap A n c B hd hs l m hm hr hn hoo h
end
theorem madeMem (w : World) : MemAt w.heap.size (fun _ => 0) (w.alloc (.cells (madeCells #[.int .u8 0] 65536) 5)) := by
  refine ⟨_, Blk.new w _ _, size_madeCells _ _, fun k hk => ?_⟩
  rw [← Array.getElem?_toList, toList_madeCells_one, List.getElem?_replicate, if_pos hk]
  rfl
theorem below_only {B g : Nat} {w0 w w' : World} (hb : Below B w0 w) (hg : B ≤ g) (h2 : w'.heap.size = w.heap.size) (h3 : w'.os = w.os) (h4 : w'.tape = w.tape) (h5 : w'.output = w.output) (h6 : ∀ q, q ≠ g → w'.heap[q]? = w.heap[q]?) : Below B w0 w' :=
  hb.trans ⟨h3, h4, h5, by omega, fun q hq => h6 q (by omega)⟩
theorem slice_end (gl N : Nat) (W : World) : (Instr.slice 24 (.slice (some ⟨gl, 0, none⟩) N N) (some (.int .i64 (N : Int))) none none).run Tryz.prog W = .ok (.slice (some ⟨gl, 0, none⟩) 0 0) W := by
  have hu : Tryz.prog.underlying 24 = some (.slice (Tryz.prog.elem 24)) := by kernel_rfl
  have hs : (sizeOf (Tryz.prog.elem 24)).run Tryz.prog W = .ok 1 W := by kernel_rfl
  rw [run_slice_l W 24 _ N N hu .i64 _ (by omega) (by omega), hs]
  simp only [Result.andThen, sliced, Int.toNat_natCast]
  simp
set_option maxRecDepth 100000 in
set_option maxHeartbeats 4000000 in
theorem Image_any (lo hi : List UInt8) (A1 A2 : Option Addr) (n1 c1 n2 c2 : Nat) (w : World) (hr1 : Reads w w.heap.size 1 A1 n1 (bytesV lo)) (hr2 : Reads w w.heap.size 1 A2 n2 (bytesV hi)) (h1 : n1 ≤ 65536) (h2 : n2 ≤ 65536) :
    Calls Tryz.prog 19 #[.agg #[.slice A1 n1 c1, .slice A2 n2 c2]] w fun e w' => (∃ gl, e = .returned (.tuple #[.slice (some ⟨gl, 0, none⟩) 65536 65536, .bool true]) ∧ MemAt gl (updL (updL (fun _ => 0) 0 lo) (65536 - n2) hi) w' ∧ w.heap.size ≤ gl) ∧ Below w.heap.size w w' := by
  obtain ⟨i0, hinf, hz0, hz1, hz2⟩ := info_parts info_u8
  have hmk : ∀ u : World, (Instr.makeSlice 24 (.int .i64 65536) (.int .i64 65536)).run Tryz.prog u = .ok (.slice (some ⟨u.heap.size, 0, none⟩) 65536 65536) (u.alloc (.cells (madeCells #[.int .u8 0] 65536) 5)) := fun u => by
    have h := run_make (P := Tryz.prog) u 24 5 i0 (.int .u8 0) Tryz.underlying24 hinf hz0 .i64 .i64 65536 65536 (by omega) (by omega) (by rw [hz2]; omega) (by omega)
    simpa [hz1, Value.cells] using h
  have hb1 : Below w.heap.size w (w.alloc (.cells #[.slice A1 n1 c1, .slice A2 n2 c2] 26)) := below_alloc (Below.refl _ _) _
  have hX1 : Blk (w.alloc (.cells #[.slice A1 n1 c1, .slice A2 n2 c2] 26)) w.heap.size 26 #[.slice A1 n1 c1, .slice A2 n2 c2] := Blk.newAt w _ _ w.heap.size rfl
  have hra := hr1.below hb1
  have hrb := hr2.below hb1
  have t1 : ((n1 : Int) > 65536) = False := by simp; omega
  have t2 : ((n2 : Int) > 65536) = False := by simp; omega
  have hs1 : w.heap.size < (w.alloc (.cells #[.slice A1 n1 c1, .slice A2 n2 c2] 26)).heap.size := by simp
  go_enter Tryz.func19, Tryz.ntmps19
  go_upto_region 3 with fail
  generalize w.alloc (.cells #[.slice A1 n1 c1, .slice A2 n2 c2] 26) = w1 at *
  have hX2 := hX1.alloc (.cells (madeCells #[.int .u8 0] 65536) 5)
  have x0 := hX2.cell 0
  have x1 := hX2.cell 1
  simp only [List.getElem?_toArray, List.getElem?_cons_zero, List.getElem?_cons_succ] at x0 x1
  have hlx := hX2.lt
  have hm0 := madeMem w1
  have hra2 := hra.below (below_alloc (Below.refl _ w1) (.cells (madeCells #[.int .u8 0] 65536) 5) |>.mono (Nat.le_of_lt hs1))
  have hrb2 := hrb.below (below_alloc (Below.refl _ w1) (.cells (madeCells #[.int .u8 0] 65536) 5) |>.mono (Nat.le_of_lt hs1))
  have hbk : Below w.heap.size w (w1.alloc (.cells (madeCells #[.int .u8 0] 65536) 5)) := hb1.alloc hb1.size _
  have hne : w.heap.size ≠ w1.heap.size := by omega
  go_upto_region 5 with (refine wpList_copy_mem rfl (.tmp 16) (.tmp 18) 24 24 rfl Tryz.underlying24 w1.heap.size 0 65536 65536 A1 n1 c1 _ rfl rfl lo (fun _ => 0) hm0 hra2 (by omega) (by omega) ?_; intro w2 hm2 hz2' ho2 ht2 hp2 hs2)
  have hb2 : Below w.heap.size w w2 := below_only hbk hb1.size hz2' ho2 ht2 hp2 hs2.out
  have hX3 : Blk w2 w.heap.size 26 #[.slice A1 n1 c1, .slice A2 n2 c2] := (hs2.out _ hne).trans hX2
  have x0 := hX3.cell 0
  have x1 := hX3.cell 1
  simp only [List.getElem?_toArray, List.getElem?_cons_zero, List.getElem?_cons_succ] at x0 x1
  have hlx := hX3.lt
  have hrb3 : Reads w2 w.heap.size 1 A2 n2 (bytesV hi) := hr2.below hb2
  have hrbd := hrb3.below (below_drewN (Below.refl _ w2) 1 |>.mono (by have := hb2.size; omega))
  have hmd := hm2.below (below_drewN (Below.refl _ w2) 1)
  have hln : hi.length = n2 := by simpa [bytesV] using hr2.1
  clear hX1 hX2 hra hrb hra2 hrb2 hm0 hbk
  rcases Nat.eq_zero_or_pos n2 with h0 | h0
  · subst h0
    obtain rfl := List.eq_nil_of_length_eq_zero hln
    have hw0 : IntKind.i64.wrap 65536 = 65536 := by decide
    go_region_law (refine step_copy_mem rfl (.tmp 25) (.tmp 27) 24 24 rfl Tryz.underlying24 w1.heap.size 0 0 0 A2 0 c2 _ (by simp [Act.eval, Act.put]) (by simp [Act.eval, Act.put]) [] _ hmd hrbd (by omega) (by omega) ?_; intro w3 hm3 hz3 ho3 ht3 hp3 hs3)
    all_goals
      have hb3 : Below w.heap.size w w3 := below_only hb2 hb1.size hz3 ho3 ht3 hp3 hs3.out
      have hgl := hb1.size
      go_wp2
      go_ret2
      refine ⟨⟨w1.heap.size, rfl, ?_, hgl⟩, hb3⟩
      rw [updL_nil] at hm3 ⊢
      exact hm3
  · obtain ⟨q, hq, hqn⟩ : ∃ q : Nat, (65536 : Int) - (n2 : Int) = (q : Int) ∧ q + n2 = 65536 := ⟨65536 - n2, by omega, by omega⟩
    have hq2 : 65536 - n2 = q := by omega
    have hqw : IntKind.i64.wrap (q : Int) = (q : Int) := by unfold IntKind.wrap; simp [IntKind.signed, IntKind.bits]; omega
    have hqb : (0 ≤ (q : Int) ∧ (q : Int) ≤ 65536) = True := eq_true (by omega)
    have hqb2 : ((q : Int) ≤ 65536) = True := eq_true (by omega)
    have hqe : (65536 = q) = False := eq_false (by omega)
    go_region_law (refine step_copy_mem rfl (.tmp 25) (.tmp 27) 24 24 rfl Tryz.underlying24 w1.heap.size q (65536 - q) (65536 - q) A2 n2 c2 _ (by simp [Act.eval, Act.put]) (by simp [Act.eval, Act.put]) hi _ hmd hrbd (by omega) (by omega) ?_; intro w3 hm3 hz3 ho3 ht3 hp3 hs3)
    all_goals
      have hb3 : Below w.heap.size w w3 := below_only hb2 hb1.size hz3 ho3 ht3 hp3 hs3.out
      have hgl := hb1.size
      go_wp2
      go_ret2
      rw [hq2]
      exact ⟨⟨w1.heap.size, rfl, hm3, hgl⟩, hb3⟩
end Go.Proofs.YtkdaphkpllgmbaaGreat
namespace Go.Proofs.YtkdaphkpllgmbaaGreat
open Go.RowKit
section
variable {P : Program}
theorem run_copy_rowS (w : World) (dT sT ty elem : TypeId) (g o dLen dCap : Nat) (a : Addr) (sLen sCap sz : Nat) (cur : Array Value) (t : TypeId) (cs : List Value)
    (hu : P.underlying dT = some (.slice elem)) (hs : (P.info? elem).map (·.size) = some sz)
    (hg : w.heap[g]? = some (.cells cur t (0, 0))) (hn : cs.length = Nat.min sLen dLen * sz)
    (hsrc : ∀ j v, cs[j]? = some v → w.cell? (a.add j) = some v) (hfit : o + cs.length ≤ cur.size) (h1 : ∀ v ∈ cs, v.oneCell' = true) :
    (Builtin.copy_ #[dT, sT] ty #[.slice (some ⟨g, o, none⟩) dLen dCap, .slice (some a) sLen sCap]).run P w =
      .ok (goInt (Nat.min sLen dLen)) (w.setRow g (cur.toList.take o ++ cs ++ cur.toList.drop (o + cs.length)).toArray) := by
  have hl := run_loadCells_list (P := P) w a cs hsrc
  have hst := run_storeCells_at P g o t cs 0 cur w hg (by simpa using hfit) h1
  cases hq : P.info? elem with
  | none => simp [hq] at hs
  | some i =>
    have hi : i.size = sz := by simpa [hq] using hs
    simp [Builtin.copy_, run_underlying hu, Builtin.lenOf, Builtin.firstCells, sizeOf, typeInfo, hq, hi, ← hn, hl, hst]
theorem run_copy_noneS (w : World) (dT sT ty elem : TypeId) (d a : Option Addr) (dLen dCap sLen sCap sz : Nat) (hu : P.underlying dT = some (.slice elem)) (hs : (P.info? elem).map (·.size) = some sz) (hn : Nat.min sLen dLen = 0) :
    (Builtin.copy_ #[dT, sT] ty #[.slice d dLen dCap, .slice a sLen sCap]).run P w = .ok (goInt 0) w := by
  cases hq : P.info? elem with
  | none => simp [hq] at hs
  | some i =>
    have hl : ∀ (x : Addr), (loadCells x 0).run P w = .ok #[] w := fun x => by simpa using run_loadCells_list (P := P) w x [] (by simp)
    cases d <;> cases a <;> simp [Builtin.copy_, run_underlying hu, Builtin.lenOf, Builtin.firstCells, sizeOf, typeInfo, hq, hn, storeCells, hl]
theorem wpList_copy_spliceS {w : World} {ops : Array Oper} {rest : List Oper} {o : Oper} {a : Act} {Q : Exit → Act → World → Prop} (hgd : o.guard = none) (d s : Operand) (dT sT : TypeId)
    (ho : o.op = .call { callee := .builtin .copy, args := #[d, s], argTypes := #[dT, sT] }) (elem : TypeId) (sz : Nat) (hu : P.underlying dT = some (.slice elem)) (hsz : (P.info? elem).map (·.size) = some sz) (hsp : 0 < sz)
    (dp sp : Option Addr) (dLen dCap sLen sCap : Nat) (hd : a.eval d = .slice dp dLen dCap) (hs : a.eval s = .slice sp sLen sCap)
    (g off : Nat) (cur : List Value) (t : TypeId) (hg : w.heap[g]? = some (.cells cur.toArray t (0, 0))) (cs : List Value) (m : Nat) (hm : Nat.min sLen dLen = m) (hn : cs.length = m * sz)
    (hpos : 0 < cs.length → dp = some ⟨g, off, none⟩ ∧ ∃ ad, sp = some ad ∧ ∀ j v, cs[j]? = some v → w.cell? (ad.add j) = some v)
    (hfit : off + cs.length ≤ cur.length) (h1 : ∀ v ∈ cs, v.oneCell' = true) (B : Nat) (w0 : World) (hb : Below B w0 w) (hBg : B ≤ g)
    (h : ∀ w', Hid (w'.heap[g]? = some (.cells (splice cur off cs).toArray t (0, 0))) → Below B w0 w' → wpList P ops Q rest (a.put o.dst (goInt m)) w') :
    wpList P ops Q (o :: rest) a w := by
  refine wpList_plain hgd fun K hK => ?_
  subst hm
  by_cases h0 : cs.length = 0
  · have hm : Nat.min sLen dLen = 0 := by
      rw [h0] at hn
      rcases Nat.mul_eq_zero.1 hn.symm with h | h
      · exact h
      · omega
    obtain rfl : cs = [] := List.eq_nil_of_length_eq_zero h0
    have hrun := run_copy_noneS (P := P) w dT sT o.type elem dp sp dLen dCap sLen sCap sz hu hsz hm
    unfold Oper.wp
    simp [execOp, ho, resolve, invoke, builtin, hd, hs, hrun, Result.andThen]
    rw [hm] at h
    exact hK _ _ (h w (show _ = _ by simpa [splice] using hg) hb)
  · obtain ⟨rfl, ad, rfl, hsrc⟩ := hpos (by omega)
    have hrun := run_copy_rowS (P := P) w dT sT o.type elem g off dLen dCap ad sLen sCap sz cur.toArray t cs hu hsz hg hn hsrc (by simpa using hfit) h1
    unfold Oper.wp
    simp [execOp, ho, resolve, invoke, builtin, hd, hs, hrun, Result.andThen]
    refine hK _ _ (h _ (show _ = _ from ?_) (below_setRow hb hBg _))
    simpa [splice] using setRow_heap w g _ _ t _ hg
theorem step_copy_spliceS {ops : Array Oper} {o : Oper} {a : Act} {w : World} {K : Act → World → Prop} {Q : Exit → Act → World → Prop} {E : Prop} (hgd : o.guard = none) (d s : Operand) (dT sT : TypeId)
    (ho : o.op = .call { callee := .builtin .copy, args := #[d, s], argTypes := #[dT, sT] }) (elem : TypeId) (sz : Nat) (hu : P.underlying dT = some (.slice elem)) (hsz : (P.info? elem).map (·.size) = some sz) (hsp : 0 < sz)
    (dp sp : Option Addr) (dLen dCap sLen sCap : Nat) (hd : a.eval d = .slice dp dLen dCap) (hs : a.eval s = .slice sp sLen sCap)
    (g off : Nat) (cur : List Value) (t : TypeId) (hg : w.heap[g]? = some (.cells cur.toArray t (0, 0))) (cs : List Value) (m : Nat) (hm : Nat.min sLen dLen = m) (hn : cs.length = m * sz)
    (hpos : 0 < cs.length → dp = some ⟨g, off, none⟩ ∧ ∃ ad, sp = some ad ∧ ∀ j v, cs[j]? = some v → w.cell? (ad.add j) = some v)
    (hfit : off + cs.length ≤ cur.length) (h1 : ∀ v ∈ cs, v.oneCell' = true) (B : Nat) (w0 : World) (hb : Below B w0 w) (hBg : B ≤ g)
    (h : ∀ w', Hid (w'.heap[g]? = some (.cells (splice cur off cs).toArray t (0, 0))) → Below B w0 w' → K (a.put o.dst (goInt m)) w') :
    if Region.wanted o (yielded ops a.tmps) = true then Oper.wp P o a w K Q else E := by
  have hw : Region.wanted o (yielded ops a.tmps) = true := by simp [Region.wanted, hgd]
  rw [if_pos hw]
  subst hm
  by_cases h0 : cs.length = 0
  · have hm : Nat.min sLen dLen = 0 := by
      rw [h0] at hn
      rcases Nat.mul_eq_zero.1 hn.symm with h | h
      · exact h
      · omega
    obtain rfl : cs = [] := List.eq_nil_of_length_eq_zero h0
    have hrun := run_copy_noneS (P := P) w dT sT o.type elem dp sp dLen dCap sLen sCap sz hu hsz hm
    unfold Oper.wp
    simp [execOp, ho, resolve, invoke, builtin, hd, hs, hrun, Result.andThen]
    rw [hm] at h
    exact h w (show _ = _ by simpa [splice] using hg) hb
  · obtain ⟨rfl, ad, rfl, hsrc⟩ := hpos (by omega)
    have hrun := run_copy_rowS (P := P) w dT sT o.type elem g off dLen dCap ad sLen sCap sz cur.toArray t cs hu hsz hg hn hsrc (by simpa using hfit) h1
    unfold Oper.wp
    simp [execOp, ho, resolve, invoke, builtin, hd, hs, hrun, Result.andThen]
    refine h _ (show _ = _ from ?_) (below_setRow hb hBg _)
    simpa [splice] using setRow_heap w g _ _ t _ hg
end
end Go.Proofs.YtkdaphkpllgmbaaGreat

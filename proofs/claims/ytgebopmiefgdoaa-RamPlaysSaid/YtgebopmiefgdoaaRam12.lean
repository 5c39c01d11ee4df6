/-
  The law's example; a copy into a row of 65536 bytes.
-/
import Derived.Test.YtgebopmiefgdoaaRam11
import Derived.Deep.RegionLaw
namespace Go.Proofs.Ytgebopmiefgdoaa
open Go.RowKit
set_option maxRecDepth 100000 in
set_option maxHeartbeats 4000000 in
theorem alive32 (w : World) :
    Calls Try.prog 86 #[] w fun e w' => e = .returned (.bool true) ∧ Below w.heap.size w w' := by
  have HN : Hid (∀ W : World, Reads W W.heap.size 1 (some ⟨w.heap.size, 0, none⟩) 2 (bytesV [1, 2]) → Calls Try.prog 85 #[.slice (some ⟨w.heap.size, 0, none⟩) 2 2, .int .i64 1] W fun e w' => e = .returned (.tuple #[.pointer (some ⟨W.heap.size, 0, none⟩), .int .i64 0]) ∧ (∃ pb cs, RamAt W.heap.size W.heap.size (updL (fun _ => 0) 0 [1, 2]) 1 pb cs w') ∧ Below W.heap.size W w') :=
    fun W hr => New_any [1, 2] _ 2 2 1 W hr (by omega) (by omega) (by omega)
  have hr0 : Reads (w.alloc (.cells #[.int .u8 1, .int .u8 2] 5)) (w.alloc (.cells #[.int .u8 1, .int .u8 2] 5)).heap.size 1 (some ⟨w.heap.size, 0, none⟩) 2 (bytesV [1, 2]) := Reads.new1 w _ _ 2 _ rfl (by simp)
  go_enter Try.func86, Try.ntmps86
  go_wp2_with fail
  refine (HN.out _ hr0).mono ?_
  rintro e w1 ⟨rfl, ⟨pb, cs, hR⟩, hb1⟩
  have hs1 := hb1.size
  have hbl : Below w.heap.size w w1 := (below_alloc (Below.refl _ _) _).trans (hb1.mono (by simp))
  have H1' : (Calls Try.prog 91 #[.pointer (some ⟨w.heap.size + 1, 0, none⟩), .int .u16 1, .int .u8 9] w1 fun e w' => e = .returned (.bool false) ∧ RamStep (w.heap.size + 1) (w.heap.size + 1) (updL (fun _ => 0) 0 [1, 2]) 1 pb w1 w') := by
    have h := Write_a 1 9 w1 hR hs1 (by omega)
    rw [if_neg (by omega)] at h
    simpa using h
  have H1 := Lib.hid H1'
  clear H1'
  clear hr0
  have hs : w.heap.size + 1 ≤ w1.heap.size := by simpa using hs1
  clear HN hR hs1 hb1
  go_wp2_with fail
  refine H1.out.mono ?_
  rintro e w2 ⟨rfl, hst⟩
  obtain ⟨pb2, cs2, hR2, _⟩ := hst.ram
  have hbl2 := hbl.trans (hst.below.mono (by omega))
  have hs2 := hst.only.size
  have H2' : (Calls Try.prog 91 #[.pointer (some ⟨w.heap.size + 1, 0, none⟩), .int .u16 0, .int .u8 9] w2 fun e w' => e = .returned (.bool true) ∧ RamStep (w.heap.size + 1) (w.heap.size + 1) (upd (updL (fun _ => 0) 0 [1, 2]) 0 9) 1 pb2 w2 w') := by
    have h := Write_a 0 9 w2 hR2 (by omega) (by omega)
    rw [if_pos (by omega)] at h
    simpa using h
  have H2 := Lib.hid H2'
  clear H2'
  clear hst hR2 H1
  go_wp2_with fail
  refine H2.out.mono ?_
  rintro e w3 ⟨rfl, hst⟩
  obtain ⟨pb3, cs3, hR3, _⟩ := hst.ram
  have hbl3 := hbl2.trans (hst.below.mono (by omega))
  have H3 : Hid (∀ W, Below w3.heap.size w3 W → Calls Try.prog 114 #[.pointer (some ⟨w.heap.size + 1, 0, none⟩), .int .u16 0] W fun e w' => e = .returned (.int .u8 9) ∧ Below W.heap.size W w') := fun W hW => Read_a 0 W (hR3.below hW) (by omega)
  have H4 : Hid (∀ W, Below w3.heap.size w3 W → Calls Try.prog 114 #[.pointer (some ⟨w.heap.size + 1, 0, none⟩), .int .u16 1] W fun e w' => e = .returned (.int .u8 2) ∧ Below W.heap.size W w') := fun W hW => Read_a 1 W (hR3.below hW) (by omega)
  clear hst hR3 H2
  go_wp2_with fail
  refine (H3.out _ (Below.refl _ _)).mono ?_
  rintro e w4 ⟨rfl, hb4⟩
  go_wp2_with fail
  refine (H4.out _ hb4).mono ?_
  rintro e w5 ⟨rfl, hb5⟩
  go_wp2_with fail
  go_ret
  exact ⟨rfl, below_then (below_then hbl3 hb4) hb5⟩
theorem slice_from (gl l N : Nat) (h1 : l < N) (W : World) : (Instr.slice 37 (.slice (some ⟨gl, 0, none⟩) N N) (some (.int .i64 (l : Int))) none none).run Try.prog W = .ok (.slice (some ⟨gl, l, none⟩) (N - l) (N - l)) W := by
  have hu : Try.prog.underlying 37 = some (.slice (Try.prog.elem 37)) := by kernel_rfl
  have hs : (sizeOf (Try.prog.elem 37)).run Try.prog W = .ok 1 W := by kernel_rfl
  rw [run_slice_l W 37 _ N N hu .i64 _ (by omega) (by omega), hs]
  simp only [Result.andThen, sliced, Int.toNat_natCast]
  rw [if_neg (by omega)]
  simp [addr_add0]
section
theorem RamAt.same {B g : Nat} {m : Nat → UInt8} {rom : Int} {pb : Nat → Option Nat} {cs : Array Value} {w w' : World} (h : RamAt B g m rom pb cs w) (hg : w'.heap[g]? = w.heap[g]?) (hp : ∀ i b, i < 256 → pb i = some b → w'.heap[b]? = w.heap[b]?) : RamAt B g m rom pb cs w' :=
  ⟨h.hB, hg.trans h.blk, h.size, h.romc, h.cell, h.nilp, fun i b hi e => by
    obtain ⟨⟨ps, h1, h4⟩, h2, h3⟩ := h.page i b hi e
    exact ⟨⟨ps, (hp i b hi e).trans h1, h4⟩, h2, h3⟩, h.inj⟩
theorem RamAt.weaken {B B' g : Nat} {m : Nat → UInt8} {rom : Int} {pb : Nat → Option Nat} {cs : Array Value} {w : World} (h : RamAt B g m rom pb cs w) (hB : B' ≤ B) : RamAt B' g m rom pb cs w :=
  ⟨Nat.le_trans hB h.hB, h.blk, h.size, h.romc, h.cell, h.nilp, fun i b hi e => by
    obtain ⟨h1, h2, h3⟩ := h.page i b hi e
    exact ⟨h1, Nat.le_trans hB h2, h3⟩, h.inj⟩
theorem RamAt.plt {B g : Nat} {m : Nat → UInt8} {rom : Int} {pb : Nat → Option Nat} {cs : Array Value} {w : World} (h : RamAt B g m rom pb cs w) {i b : Nat} (hi : i < 256) (e : pb i = some b) : b < w.heap.size := by
  obtain ⟨⟨ps, h1, _⟩, _, _⟩ := h.page i b hi e
  exact h1.lt
/-- Memory, and a row of the same bytes apart from it. -/
structure Both (B gl g : Nat) (m : Nat → UInt8) (rom : Int) (w : World) : Prop where
  ram : ∃ pb cs, RamAt B g m rom pb cs w ∧ ∀ i, i < 256 → pb i ≠ some gl
  mem : MemAt gl m w
  ap : gl ≠ g
theorem Both.below {B gl g : Nat} {m : Nat → UInt8} {rom : Int} {w w' : World} (h : Both B gl g m rom w) (hb : Below w.heap.size w w') : Both B gl g m rom w' := by
  obtain ⟨⟨pb, cs, h1, h2⟩, h3, h4⟩ := h
  exact ⟨⟨pb, cs, h1.below hb, h2⟩, h3.below hb, h4⟩
/-- Memory has turned; the row has not, so far. -/
structure Half (B gl g : Nat) (m m' : Nat → UInt8) (rom : Int) (w : World) : Prop where
  ram : ∃ pb cs, RamAt B g m' rom pb cs w ∧ ∀ i, i < 256 → pb i ≠ some gl
  mem : MemAt gl m w
  ap : gl ≠ g
theorem Both.step {B gl g : Nat} {m m' : Nat → UInt8} {rom : Int} {pb : Nat → Option Nat} {cs : Array Value} {w w' : World} (_h1 : RamAt B g m rom pb cs w) (h2 : ∀ i, i < 256 → pb i ≠ some gl) (h3 : MemAt gl m w) (h4 : gl ≠ g) (hs : RamStep B g m' rom pb w w') : Half B gl g m m' rom w' := by
  obtain ⟨⟨pb', cs', hr, hsub⟩, hon, _⟩ := hs
  refine ⟨⟨pb', cs', hr, fun i hi e => ?_⟩, h3.same (hon.block gl h3.lt h4 h2), h4⟩
  rcases hsub i gl hi e with e1 | e1
  · exact h2 i hi e1
  · have := h3.lt
    omega
theorem Half.set_ {B gl g : Nat} {m : Nat → UInt8} {rom : Int} {w : World} {a : Nat} {x : UInt8} (h : Half B gl g m (upd m a x) rom w) (ha : a < 65536) : Both B gl g (upd m a x) rom (w.setCell ⟨gl, a, none⟩ (.int .u8 (x.toNat : Int))) := by
  obtain ⟨⟨pb, cs, h1, h2⟩, h3, h4⟩ := h
  refine ⟨⟨pb, cs, h1.same (Below.heap_setCell _ _ _ _ (fun e => h4 e.symm)) fun i b hi e => Below.heap_setCell _ _ _ _ (fun e2 => h2 i hi (by rw [e, e2])), h2⟩, h3.set_ ha x, h4⟩
theorem Half.mem_ {B gl g : Nat} {m m' : Nat → UInt8} {rom : Int} {w w' : World} (h : Half B gl g m m' rom w) (hm : MemAt gl m' w') (hs : ∀ q, q < w.heap.size → q ≠ gl → w'.heap[q]? = w.heap[q]?) : Both B gl g m' rom w' := by
  obtain ⟨⟨pb, cs, h1, h2⟩, h3, h4⟩ := h
  exact ⟨⟨pb, cs, h1.same (hs g h1.blk.lt (fun e => h4 e.symm)) fun i b hi e => hs b (h1.plt hi e) (fun e2 => h2 i hi (by rw [e, e2])), h2⟩, hm, h4⟩
variable {P : Program}
/-- A copy into the row. -/
theorem run_copy_mem (w : World) (dT sT ty : TypeId) (hu : Try.prog.underlying dT = some (.slice 5)) (g o dLen dCap : Nat) (A : Option Addr) (n c B : Nat) (l : List UInt8) (m : Nat → UInt8) (hm : MemAt g m w) (hr : Reads w B 1 A n (bytesV l)) (hn : n ≤ dLen) (ho : o + n ≤ 65536) :
    ∃ w', (Builtin.copy_ #[dT, sT] ty #[.slice (some ⟨g, o, none⟩) dLen dCap, .slice A n c]).run Try.prog w = .ok (goInt (n : Int)) w' ∧ MemAt g (updL m o l) w' ∧ w'.heap.size = w.heap.size ∧ w'.os = w.os ∧ w'.tape = w.tape ∧ w'.output = w.output ∧ ∀ q, q ≠ g → w'.heap[q]? = w.heap[q]? := by
  have hl : l.length = n := by simpa [bytesV] using hr.1
  have hsz : (Try.prog.info? 5).map (·.size) = some 1 := by kernel_rfl
  rcases Nat.eq_zero_or_pos n with h0 | h0
  · subst h0
    obtain rfl := List.eq_nil_of_length_eq_zero hl
    refine ⟨w, ?_, by rw [updL_nil]; exact hm, rfl, rfl, rfl, rfl, fun _ _ => rfl⟩
    exact run_copy_none w dT sT ty _ _ _ dLen dCap 0 c hu hsz (by simp)
  · obtain ⟨ad, rfl, _, hc⟩ := hr.2 h0
    obtain ⟨cs, h1, h2, h3⟩ := hm.blk
    have hln : (bytesV l).length = n := by simp [bytesV, hl]
    have hrun := run_copy_row (P := Try.prog) w dT sT ty _ g o dLen dCap ad n c cs 5 (bytesV l) hu hsz h1 (by rw [hln]; exact (Nat.min_eq_left hn).symm) hc (by rw [hln, h2]; exact ho) (bytesV_one l)
    rw [hln] at hrun
    refine ⟨_, hrun, ⟨_, setRow_heap w g _ _ _ _ h1, ?_, fun k hk => ?_⟩, by simp, rfl, rfl, rfl, fun q hq => setRow_other w g q _ hq⟩
    · simp only [List.size_toArray, List.length_append, List.length_take, List.length_drop, Array.length_toList, hln, h2]
      omega
    · simp only [List.getElem?_toArray]
      have ht : (cs.toList.take o).length = o := by rw [List.length_take, Array.length_toList, h2]; omega
      unfold updL
      by_cases hin : o ≤ k ∧ k < o + l.length
      · rw [if_pos hin, List.append_assoc, List.getElem?_append_right (by omega), ht, List.getElem?_append_left (by omega)]
        have hk2 : k - o < l.length := by omega
        simp [bytesV, List.getElem?_eq_getElem hk2]
      · rw [if_neg hin]
        by_cases hlo : k < o
        · rw [List.append_assoc, List.getElem?_append_left (by omega), List.getElem?_take, if_pos hlo]
          simpa using h3 k hk
        · rw [List.getElem?_append_right (by rw [List.length_append, ht, hln]; omega), List.length_append, ht, hln, List.getElem?_drop]
          rw [show o + n + (k - (o + n)) = k by omega]
          simpa using h3 k hk
theorem wp_copy_mem {o : Oper} {a : Act} {w : World} {K : Act → World → Prop} {Q : Exit → Act → World → Prop} (d s : Operand) (dT sT : TypeId)
    (ho : o.op = .call { callee := .builtin .copy, args := #[d, s], argTypes := #[dT, sT] }) (hu : Try.prog.underlying dT = some (.slice 5))
    (g off dLen dCap : Nat) (A : Option Addr) (n c B : Nat) (hd : a.eval d = .slice (some ⟨g, off, none⟩) dLen dCap) (hs : a.eval s = .slice A n c) (l : List UInt8) (m : Nat → UInt8) (hm : MemAt g m w) (hr : Reads w B 1 A n (bytesV l)) (hn : n ≤ dLen) (hoo : off + n ≤ 65536)
    (h : ∀ w', MemAt g (updL m off l) w' → w'.heap.size = w.heap.size → w'.os = w.os → w'.tape = w.tape → w'.output = w.output → Hid (∀ q, q ≠ g → w'.heap[q]? = w.heap[q]?) → K (a.put o.dst (goInt (n : Int))) w') : o.wp Try.prog a w K Q := by
  obtain ⟨w', hrun, h1, h2, h3, h4, h5, h6⟩ := run_copy_mem w dT sT o.type hu g off dLen dCap A n c B l m hm hr hn hoo
  unfold Oper.wp
  simp only [execOp, ho, resolve, invoke, builtin, Sem.run_bind, Sem.run_pure, Result.andThen_ok, List.map_toArray, List.map_cons, List.map_nil, hd, hs, hrun]
  exact h w' h1 h2 h3 h4 h5 h6
theorem wpList_copy_mem {ops : Array Oper} {rest : List Oper} {o : Oper} {a : Act} {w : World} {Q : Exit → Act → World → Prop} (hgd : o.guard = none) (d s : Operand) (dT sT : TypeId)
    (ho : o.op = .call { callee := .builtin .copy, args := #[d, s], argTypes := #[dT, sT] }) (hu : Try.prog.underlying dT = some (.slice 5))
    (g off dLen dCap : Nat) (A : Option Addr) (n c B : Nat) (hd : a.eval d = .slice (some ⟨g, off, none⟩) dLen dCap) (hs : a.eval s = .slice A n c) (l : List UInt8) (m : Nat → UInt8) (hm : MemAt g m w) (hr : Reads w B 1 A n (bytesV l)) (hn : n ≤ dLen) (hoo : off + n ≤ 65536)
    (h : ∀ w', MemAt g (updL m off l) w' → w'.heap.size = w.heap.size → w'.os = w.os → w'.tape = w.tape → w'.output = w.output → Hid (∀ q, q ≠ g → w'.heap[q]? = w.heap[q]?) → wpList Try.prog ops Q rest (a.put o.dst (goInt (n : Int))) w') : wpList Try.prog ops Q (o :: rest) a w :=
  wpList_plain hgd fun _ hK => wp_copy_mem d s dT sT ho hu g off dLen dCap A n c B hd hs l m hm hr hn hoo fun w' h1 h2 h3 h4 h5 h6 => hK _ _ (h w' h1 h2 h3 h4 h5 h6)
theorem step_copy_mem {ops : Array Oper} {o : Oper} {a : Act} {w : World} {K : Act → World → Prop} {Q : Exit → Act → World → Prop} {E : Prop} (hgd : o.guard = none) (d s : Operand) (dT sT : TypeId)
    (ho : o.op = .call { callee := .builtin .copy, args := #[d, s], argTypes := #[dT, sT] }) (hu : Try.prog.underlying dT = some (.slice 5))
    (g off dLen dCap : Nat) (A : Option Addr) (n c B : Nat) (hd : a.eval d = .slice (some ⟨g, off, none⟩) dLen dCap) (hs : a.eval s = .slice A n c) (l : List UInt8) (m : Nat → UInt8) (hm : MemAt g m w) (hr : Reads w B 1 A n (bytesV l)) (hn : n ≤ dLen) (hoo : off + n ≤ 65536)
    (h : ∀ w', MemAt g (updL m off l) w' → w'.heap.size = w.heap.size → w'.os = w.os → w'.tape = w.tape → w'.output = w.output → Hid (∀ q, q ≠ g → w'.heap[q]? = w.heap[q]?) → K (a.put o.dst (goInt (n : Int))) w') :
    if Region.wanted o (yielded ops a.tmps) = true then Oper.wp Try.prog o a w K Q else E := by
  have hw : Region.wanted o (yielded ops a.tmps) = true := by simp [Region.wanted, hgd]
  rw [if_pos hw]
  exact wp_copy_mem d s dT sT ho hu g off dLen dCap A n c B hd hs l m hm hr hn hoo h
end
end Go.Proofs.Ytgebopmiefgdoaa

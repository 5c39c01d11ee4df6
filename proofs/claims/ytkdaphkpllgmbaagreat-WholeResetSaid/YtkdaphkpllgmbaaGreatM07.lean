/-
  The core's row of steps, which lies inside its block: contracts of queue.Len, Peek, Pop, Push at steps.
  Contracts of frame.Of, frame.Soft.
-/
import Derived.Test.YtkdaphkpllgmbaaGreatM02
import Derived.Test.YtkdaphkpllgmbaaGreatM06
import Derived.BigRegion
import Derived.Laws.Rows
namespace Go.Proofs.YtkdaphkpllgmbaaGreat
open Go.RowKit Sp
set_option linter.unusedVariables false
/-- The ring's 48 cells hold the steps q, from place a on. -/
structure RingOf (ring : List Value) (a : Nat) (q : List Step) : Prop where
  size : ring.length = 48
  ha : a < 24
  hq : q.length ≤ 24
  get : ∀ i s, q[i]? = some s → ring[(a + i) % 24 * 2]? = some (.int .i64 s.kind) ∧ ring[(a + i) % 24 * 2 + 1]? = some (.bool s.busy)
theorem RingOf.cell {ring : List Value} {a : Nat} {q : List Step} (h : RingOf ring a q) (k : Nat) (hk : k < 48) : ∃ u, ring[k]? = some u := ⟨ring[k]'(by rw [h.size]; exact hk), List.getElem?_eq_getElem _⟩
theorem RingOf.push {ring : List Value} {a m : Nat} {q : List Step} (h : RingOf ring a q) (s : Step) (hm : q.length = m) (hl : m < 24) :
    RingOf ((ring.set ((a + m) % 24 * 2) (.int .i64 s.kind)).set ((a + m) % 24 * 2 + 1) (.bool s.busy)) a (q ++ [s]) := by
  have hs := h.size
  have ha := h.ha
  subst hm
  refine ⟨by simp [hs], ha, by simp; omega, ?_⟩
  intro i y hy
  have hi : i < (q ++ [s]).length := (List.getElem?_eq_some_iff.1 hy).1
  simp at hi
  rcases Nat.lt_or_ge i q.length with h1 | h1
  · rw [List.getElem?_append_left h1] at hy
    have hg := h.get i y hy
    refine ⟨?_, ?_⟩
    · rw [List.getElem?_set_ne (by omega), List.getElem?_set_ne (by omega)]; exact hg.1
    · rw [List.getElem?_set_ne (by omega), List.getElem?_set_ne (by omega)]; exact hg.2
  · obtain rfl : i = q.length := by omega
    simp at hy
    subst hy
    refine ⟨?_, ?_⟩
    · rw [List.getElem?_set_ne (by omega), List.getElem?_set_self (by rw [hs]; omega)]
    · rw [List.getElem?_set_self (by rw [List.length_set, hs]; omega)]
theorem RingOf.pop {ring : List Value} {a : Nat} {q : List Step} {s : Step} (h : RingOf ring a (s :: q)) :
    RingOf ((ring.set (a * 2) (.int .i64 0)).set (a * 2 + 1) (.bool false)) ((a + 1) % 24) q := by
  have hs := h.size
  have ha := h.ha
  have hl := h.hq
  simp at hl
  refine ⟨by simp [hs], Nat.mod_lt _ (by omega), by omega, ?_⟩
  intro i y hy
  have hi : i < q.length := (List.getElem?_eq_some_iff.1 hy).1
  have hg := h.get (i + 1) y (by simpa using hy)
  have e : (a + (i + 1)) % 24 = ((a + 1) % 24 + i) % 24 := by omega
  rw [e] at hg
  refine ⟨?_, ?_⟩
  · rw [List.getElem?_set_ne (by omega), List.getElem?_set_ne (by omega)]; exact hg.1
  · rw [List.getElem?_set_ne (by omega), List.getElem?_set_ne (by omega)]; exact hg.2
theorem RingOf.zero : RingOf (stepsV (List.replicate 24 step0)) 0 [] := ⟨by rw [stepsV_length, List.length_replicate], by omega, by simp, by simp⟩
/-- The block's cells: nine registers, the ring, its place and number, the rest. -/
def qL (r : Regs) (ring : List Value) (a m : Nat) (rest : List Value) : List Value := fileL r ++ (ring ++ (.int .i64 (a : Int) :: .int .i64 (m : Int) :: rest))
section
variable {r : Regs} {ring : List Value} {a m : Nat} {rest : List Value}
theorem file_len (r : Regs) : (fileL r).length = 9 := rfl
theorem qL_ring (hs : ring.length = 48) (k : Nat) (hk : k < 48) : (qL r ring a m rest)[9 + k]? = ring[k]? := by
  rw [qL, List.getElem?_append_right (by rw [file_len]; omega), file_len, show 9 + k - 9 = k from by omega, List.getElem?_append_left (by omega)]
theorem qL_tail (hs : ring.length = 48) (k : Nat) : (qL r ring a m rest)[57 + k]? = (Value.int .i64 (a : Int) :: Value.int .i64 (m : Int) :: rest)[k]? := by
  rw [qL, List.getElem?_append_right (by rw [file_len]; omega), file_len, show 57 + k - 9 = 48 + k from by omega, List.getElem?_append_right (by omega), hs, show 48 + k - 48 = k from by omega]
theorem qL_setring (hs : ring.length = 48) (k : Nat) (hk : k < 48) (u : Value) : (qL r ring a m rest).set (9 + k) u = qL r (ring.set k u) a m rest := by
  rw [qL, List.set_append_right _ _ (by rw [file_len]; omega), file_len, show 9 + k - 9 = k from by omega, List.set_append_left _ _ (by omega)]
  rfl
theorem qL_settail (hs : ring.length = 48) (k : Nat) (u : Value) : (qL r ring a m rest).set (57 + k) u = fileL r ++ (ring ++ (Value.int .i64 (a : Int) :: Value.int .i64 (m : Int) :: rest).set k u) := by
  rw [qL, List.set_append_right _ _ (by rw [file_len]; omega), file_len, show 57 + k - 9 = 48 + k from by omega, List.set_append_right _ _ (by omega), hs, show 48 + k - 48 = k from by omega]
end
section
variable {w : World} {p : Nat} {r : Regs} {ring : List Value} {a m : Nat} {rest : List Value} {t : TypeId}
theorem q_at (h : LBlk w p t (qL r ring a m rest)) (hs : ring.length = 48) : w.cell? ⟨p, 57, none⟩ = some (.int .i64 (a : Int)) := (h.cell 57).trans (qL_tail hs 0)
theorem q_n (h : LBlk w p t (qL r ring a m rest)) (hs : ring.length = 48) : w.cell? ⟨p, 58, none⟩ = some (.int .i64 (m : Int)) := (h.cell 58).trans (qL_tail hs 1)
theorem q_ring (h : LBlk w p t (qL r ring a m rest)) (hs : ring.length = 48) (k : Nat) (hk : k < 48) : w.cell? ⟨p, 9 + k, none⟩ = ring[k]? := (h.cell (9 + k)).trans (qL_ring hs k hk)
theorem q_setring (h : LBlk w p t (qL r ring a m rest)) (hs : ring.length = 48) (k : Nat) (hk : k < 48) (u : Value) : LBlk (w.setCell ⟨p, 9 + k, none⟩ u) p t (qL r (ring.set k u) a m rest) := by
  rw [← qL_setring hs k hk]; exact h.set_ _ _
theorem q_setat (h : LBlk w p t (qL r ring a m rest)) (hs : ring.length = 48) (b : Nat) : LBlk (w.setCell ⟨p, 57, none⟩ (.int .i64 (b : Int))) p t (qL r ring b m rest) := by
  have := h.set_ 57 (.int .i64 (b : Int)); rwa [qL_settail hs 0] at this
theorem q_setn (h : LBlk w p t (qL r ring a m rest)) (hs : ring.length = 48) (b : Nat) : LBlk (w.setCell ⟨p, 58, none⟩ (.int .i64 (b : Int))) p t (qL r ring a b rest) := by
  have := h.set_ 58 (.int .i64 (b : Int)); rwa [qL_settail hs 1] at this
end
theorem QLen_t {w : World} {p : Nat} {r : Regs} {ring : List Value} {a m : Nat} {rest : List Value} {t : TypeId} (h : LBlk w p t (qL r ring a m rest)) (hs : ring.length = 48) :
    Calls Tryz.prog 136 #[.pointer (some ⟨p, 9, none⟩)] w fun e w' => e = .returned (.int .i64 (m : Int)) ∧ w = w' := by
  have cn := q_n h hs
  clear h hs
  go_enter Tryz.func136, Tryz.ntmps136
  go_wp2
  go_ret
  exact ⟨rfl, rfl⟩
end Go.Proofs.YtkdaphkpllgmbaaGreat
namespace Go.Proofs.YtkdaphkpllgmbaaGreat
open Go.RowKit Sp
set_option linter.unusedVariables false
def Sp.Enter.cells (e : Enter) : Array Value := #[.int .u8 (e.pushed.toNat : Int), .int .u8 (e.then_.toNat : Int), .int .u16 (e.vector.toNat : Int), .bool e.whole]
def Sp.Enter.v (e : Enter) : Value := .agg e.cells
theorem results_cell_tmp2 {P : Program} {fn : Func} {p q : Tmp} {ty : TypeId} (h : fn.results = #[.cell p ty, .tmp q]) (tmps : Array Value) (w : World) (g : Nat) (t : TypeId) (cs : Array Value) (fr : Nat × Nat) (d : TypeDesc)
    (hp : tmps.getD p undef = .pointer (some ⟨g, 0, none⟩)) (hg : w.heap[g]? = some (.cells cs t fr))
    (hu : P.underlying ty = some d) (hd : (match d with | .struct _ | .array _ _ => true | _ => false) = true) (hi : (P.info? ty).map (·.size) = some cs.size) :
    (results fn tmps).run P w = .ok (.tuple #[.agg cs, tmps.getD q undef]) w := by
  have hp' : tmps[p]?.getD undef = .pointer (some ⟨g, 0, none⟩) := by simpa using hp
  simp [results, h, hp', asAddr, run_loadVar_row w g t ty cs fr d hg hu hd hi]
theorem Blk.newAt3 (W : World) (t : TypeId) (cs : Array Value) (g : Nat) (hg : W.heap.size = g) : Blk (W.alloc (.cells cs t)) g t cs := by subst hg; exact Blk.new W t cs
set_option maxRecDepth 100000 in
set_option maxHeartbeats 4000000 in
theorem frameOf_t (n : Int) (cc : UInt8) (w : World) :
    Calls Tryz.prog 111 #[.int .i64 n, .int .u8 (cc.toNat : Int)] w fun e w' => e = .returned (.tuple #[(frameOf n cc).1.v, .bool (frameOf n cc).2]) ∧ Below w.heap.size w w' := by
  rcases (show n = 1 ∨ n = 2 ∨ n = 3 ∨ n = 5 ∨ n = 6 ∨ n = 7 ∨ n = 4 ∨ (n ≠ 1 ∧ n ≠ 2 ∧ n ≠ 3 ∧ n ≠ 5 ∧ n ≠ 6 ∧ n ≠ 7 ∧ n ≠ 4) from by omega) with rfl | rfl | rfl | rfl | rfl | rfl | rfl | ⟨h1, h2, h3, h5, h6, h7, h4⟩
  · as_aux_lemma =>
    go_enter Tryz.func111, Tryz.ntmps111
    go_wp2_with (first | (go_at_call 137; with_reducible refine (With_128 _ _ _ _ _ ?hg).mono ?_; (case hg => first | rfl | (simp; done)); rintro e w1 ⟨rfl, rfl⟩) | (go_at_call 137; with_reducible refine (With_16 _ _ _ _ _ ?hg).mono ?_; (case hg => first | rfl | (simp; done)); rintro e w1 ⟨rfl, rfl⟩) | (go_at_call 137; with_reducible refine (With_FI _ _ _ _ _ ?hg).mono ?_; (case hg => first | rfl | (simp; done)); rintro e w1 ⟨rfl, rfl⟩))
    refine bodyPost_ret (v := .tuple #[(frameOf 1 cc).1.v, .bool (frameOf 1 cc).2]) ?_ rfl ⟨rfl, (below_alloc (below_alloc (below_alloc (Below.refl _ _) _) _) _)⟩
    exact (results_cell_tmp2 (p := 4) (q := 5) (ty := 207) rfl _ _ w.heap.size 207 (frameOf 1 cc).1.cells (0, 0) _ rfl (Blk.alloc (Blk.alloc (heap_alloc_new w _) _) _) Tryz.underlying207 rfl (by kernel_rfl)).trans rfl
  · as_aux_lemma =>
    go_enter Tryz.func111, Tryz.ntmps111
    go_wp2_with (first | (go_at_call 137; with_reducible refine (With_128 _ _ _ _ _ ?hg).mono ?_; (case hg => first | rfl | (simp; done)); rintro e w1 ⟨rfl, rfl⟩) | (go_at_call 137; with_reducible refine (With_16 _ _ _ _ _ ?hg).mono ?_; (case hg => first | rfl | (simp; done)); rintro e w1 ⟨rfl, rfl⟩) | (go_at_call 137; with_reducible refine (With_FI _ _ _ _ _ ?hg).mono ?_; (case hg => first | rfl | (simp; done)); rintro e w1 ⟨rfl, rfl⟩))
    refine bodyPost_ret (v := .tuple #[(frameOf 2 cc).1.v, .bool (frameOf 2 cc).2]) ?_ rfl ⟨rfl, (below_alloc (below_alloc (below_alloc (below_alloc (Below.refl _ _) _) _) _) _)⟩
    exact (results_cell_tmp2 (p := 4) (q := 5) (ty := 207) rfl _ _ w.heap.size 207 (frameOf 2 cc).1.cells (0, 0) _ rfl (Blk.alloc (Blk.alloc (Blk.alloc (heap_alloc_new w _) _) _) _) Tryz.underlying207 rfl (by kernel_rfl)).trans rfl
  · as_aux_lemma =>
    go_enter Tryz.func111, Tryz.ntmps111
    go_wp2_with (first | (go_at_call 137; with_reducible refine (With_128 _ _ _ _ _ ?hg).mono ?_; (case hg => first | rfl | (simp; done)); rintro e w1 ⟨rfl, rfl⟩) | (go_at_call 137; with_reducible refine (With_16 _ _ _ _ _ ?hg).mono ?_; (case hg => first | rfl | (simp; done)); rintro e w1 ⟨rfl, rfl⟩) | (go_at_call 137; with_reducible refine (With_FI _ _ _ _ _ ?hg).mono ?_; (case hg => first | rfl | (simp; done)); rintro e w1 ⟨rfl, rfl⟩))
    refine bodyPost_ret (v := .tuple #[(frameOf 3 cc).1.v, .bool (frameOf 3 cc).2]) ?_ rfl ⟨rfl, (below_alloc (below_alloc (below_alloc (Below.refl _ _) _) _) _)⟩
    exact (results_cell_tmp2 (p := 4) (q := 5) (ty := 207) rfl _ _ w.heap.size 207 (frameOf 3 cc).1.cells (0, 0) _ rfl (Blk.alloc (Blk.alloc (heap_alloc_new w _) _) _) Tryz.underlying207 rfl (by kernel_rfl)).trans rfl
  · as_aux_lemma =>
    go_enter Tryz.func111, Tryz.ntmps111
    go_wp2_with (first | (go_at_call 137; with_reducible refine (With_128 _ _ _ _ _ ?hg).mono ?_; (case hg => first | rfl | (simp; done)); rintro e w1 ⟨rfl, rfl⟩) | (go_at_call 137; with_reducible refine (With_16 _ _ _ _ _ ?hg).mono ?_; (case hg => first | rfl | (simp; done)); rintro e w1 ⟨rfl, rfl⟩) | (go_at_call 137; with_reducible refine (With_FI _ _ _ _ _ ?hg).mono ?_; (case hg => first | rfl | (simp; done)); rintro e w1 ⟨rfl, rfl⟩))
    refine bodyPost_ret (v := .tuple #[(frameOf 5 cc).1.v, .bool (frameOf 5 cc).2]) ?_ rfl ⟨rfl, (below_alloc (below_alloc (below_alloc (Below.refl _ _) _) _) _)⟩
    exact (results_cell_tmp2 (p := 4) (q := 5) (ty := 207) rfl _ _ w.heap.size 207 (frameOf 5 cc).1.cells (0, 0) _ rfl (Blk.alloc (Blk.alloc (heap_alloc_new w _) _) _) Tryz.underlying207 rfl (by kernel_rfl)).trans rfl
  · as_aux_lemma =>
    go_enter Tryz.func111, Tryz.ntmps111
    go_wp2_with (first | (go_at_call 137; with_reducible refine (With_128 _ _ _ _ _ ?hg).mono ?_; (case hg => first | rfl | (simp; done)); rintro e w1 ⟨rfl, rfl⟩) | (go_at_call 137; with_reducible refine (With_16 _ _ _ _ _ ?hg).mono ?_; (case hg => first | rfl | (simp; done)); rintro e w1 ⟨rfl, rfl⟩) | (go_at_call 137; with_reducible refine (With_FI _ _ _ _ _ ?hg).mono ?_; (case hg => first | rfl | (simp; done)); rintro e w1 ⟨rfl, rfl⟩))
    refine bodyPost_ret (v := .tuple #[(frameOf 6 cc).1.v, .bool (frameOf 6 cc).2]) ?_ rfl ⟨rfl, (below_alloc (below_alloc (below_alloc (Below.refl _ _) _) _) _)⟩
    exact (results_cell_tmp2 (p := 4) (q := 5) (ty := 207) rfl _ _ w.heap.size 207 (frameOf 6 cc).1.cells (0, 0) _ rfl (Blk.alloc (Blk.alloc (heap_alloc_new w _) _) _) Tryz.underlying207 rfl (by kernel_rfl)).trans rfl
  · as_aux_lemma =>
    go_enter Tryz.func111, Tryz.ntmps111
    go_wp2_with (first | (go_at_call 137; with_reducible refine (With_128 _ _ _ _ _ ?hg).mono ?_; (case hg => first | rfl | (simp; done)); rintro e w1 ⟨rfl, rfl⟩) | (go_at_call 137; with_reducible refine (With_16 _ _ _ _ _ ?hg).mono ?_; (case hg => first | rfl | (simp; done)); rintro e w1 ⟨rfl, rfl⟩) | (go_at_call 137; with_reducible refine (With_FI _ _ _ _ _ ?hg).mono ?_; (case hg => first | rfl | (simp; done)); rintro e w1 ⟨rfl, rfl⟩))
    refine bodyPost_ret (v := .tuple #[(frameOf 7 cc).1.v, .bool (frameOf 7 cc).2]) ?_ rfl ⟨rfl, (below_alloc (below_alloc (below_alloc (Below.refl _ _) _) _) _)⟩
    exact (results_cell_tmp2 (p := 4) (q := 5) (ty := 207) rfl _ _ w.heap.size 207 (frameOf 7 cc).1.cells (0, 0) _ rfl (Blk.alloc (Blk.alloc (heap_alloc_new w _) _) _) Tryz.underlying207 rfl (by kernel_rfl)).trans rfl
  · as_aux_lemma =>
    go_enter Tryz.func111, Tryz.ntmps111
    go_wp2_with (first | (go_at_call 137; with_reducible refine (With_128 _ _ _ _ _ ?hg).mono ?_; (case hg => first | rfl | (simp; done)); rintro e w1 ⟨rfl, rfl⟩) | (go_at_call 137; with_reducible refine (With_16 _ _ _ _ _ ?hg).mono ?_; (case hg => first | rfl | (simp; done)); rintro e w1 ⟨rfl, rfl⟩) | (go_at_call 137; with_reducible refine (With_FI _ _ _ _ _ ?hg).mono ?_; (case hg => first | rfl | (simp; done)); rintro e w1 ⟨rfl, rfl⟩))
    refine bodyPost_ret (v := .tuple #[(frameOf 4 cc).1.v, .bool (frameOf 4 cc).2]) ?_ rfl ⟨rfl, (below_alloc (below_alloc (below_alloc (Below.refl _ _) _) _) _)⟩
    exact (results_cell_tmp2 (p := 4) (q := 5) (ty := 207) rfl _ _ w.heap.size 207 (frameOf 4 cc).1.cells (0, 0) _ rfl (Blk.alloc (Blk.alloc (heap_alloc_new w _) _) _) Tryz.underlying207 rfl (by kernel_rfl)).trans rfl
  · as_aux_lemma =>
    have e1 : (n == 1) = false := beq_eq_false_iff_ne.mpr h1
    have e2 : (n == 2) = false := beq_eq_false_iff_ne.mpr h2
    have e3 : (n == 3) = false := beq_eq_false_iff_ne.mpr h3
    have e5 : (n == 5) = false := beq_eq_false_iff_ne.mpr h5
    have e6 : (n == 6) = false := beq_eq_false_iff_ne.mpr h6
    have e7 : (n == 7) = false := beq_eq_false_iff_ne.mpr h7
    have e4 : (n == 4) = false := beq_eq_false_iff_ne.mpr h4
    rw [show frameOf n cc = (⟨0, 0, 0, false⟩, false) from by simp [frameOf, h1, h2, h3, h5, h6, h7, h4]]
    go_enter Tryz.func111, Tryz.ntmps111
    go_wp2_with (first | (go_at_call 137; with_reducible refine (With_128 _ _ _ _ _ ?hg).mono ?_; (case hg => first | rfl | (simp; done)); rintro e w1 ⟨rfl, rfl⟩))
    refine bodyPost_ret (v := .tuple #[(((⟨0, 0, 0, false⟩ : Enter), false)).1.v, .bool (((⟨0, 0, 0, false⟩ : Enter), false)).2]) ?_ rfl ⟨rfl, (below_alloc (below_alloc (Below.refl _ _) _) _)⟩
    exact (results_cell_tmp2 (p := 4) (q := 5) (ty := 207) rfl _ _ w.heap.size 207 (((⟨0, 0, 0, false⟩ : Enter), false)).1.cells (0, 0) _ rfl (Blk.alloc (heap_alloc_new w _) _) Tryz.underlying207 rfl (by kernel_rfl)).trans rfl
set_option maxRecDepth 100000 in
set_option maxHeartbeats 4000000 in
theorem frameSoft_t (n : Int) (cc : UInt8) (w : World) :
    Calls Tryz.prog 166 #[.int .i64 n, .int .u8 (cc.toNat : Int)] w fun e w' => e = .returned (.tuple #[(frameSoft n cc).1.v, .bool (frameSoft n cc).2]) ∧ Below w.heap.size w w' := by
  rcases (show n = 1 ∨ n = 2 ∨ n = 3 ∨ (n ≠ 1 ∧ n ≠ 2 ∧ n ≠ 3) from by omega) with rfl | rfl | rfl | ⟨h1, h2, h3⟩
  · as_aux_lemma =>
    go_enter Tryz.func166, Tryz.ntmps166
    go_wp2_with (first | (go_at_call 137; with_reducible refine (With_128 _ _ _ _ _ ?hg).mono ?_; (case hg => first | rfl | (simp; done)); rintro e w1 ⟨rfl, rfl⟩) | (go_at_call 137; with_reducible refine (With_16 _ _ _ _ _ ?hg).mono ?_; (case hg => first | rfl | (simp; done)); rintro e w1 ⟨rfl, rfl⟩) | (go_at_call 137; with_reducible refine (With_FI _ _ _ _ _ ?hg).mono ?_; (case hg => first | rfl | (simp; done)); rintro e w1 ⟨rfl, rfl⟩))
    refine bodyPost_ret (v := .tuple #[(frameSoft 1 cc).1.v, .bool (frameSoft 1 cc).2]) ?_ rfl ⟨rfl, (below_alloc (below_alloc (below_alloc (Below.refl _ _) _) _) _)⟩
    exact (results_cell_tmp2 (p := 4) (q := 5) (ty := 207) rfl _ _ w.heap.size 207 (frameSoft 1 cc).1.cells (0, 0) _ rfl (Blk.alloc (Blk.alloc (heap_alloc_new w _) _) _) Tryz.underlying207 rfl (by kernel_rfl)).trans rfl
  · as_aux_lemma =>
    go_enter Tryz.func166, Tryz.ntmps166
    go_wp2_with (first | (go_at_call 137; with_reducible refine (With_128 _ _ _ _ _ ?hg).mono ?_; (case hg => first | rfl | (simp; done)); rintro e w1 ⟨rfl, rfl⟩) | (go_at_call 137; with_reducible refine (With_16 _ _ _ _ _ ?hg).mono ?_; (case hg => first | rfl | (simp; done)); rintro e w1 ⟨rfl, rfl⟩) | (go_at_call 137; with_reducible refine (With_FI _ _ _ _ _ ?hg).mono ?_; (case hg => first | rfl | (simp; done)); rintro e w1 ⟨rfl, rfl⟩))
    refine bodyPost_ret (v := .tuple #[(frameSoft 2 cc).1.v, .bool (frameSoft 2 cc).2]) ?_ rfl ⟨rfl, (below_alloc (below_alloc (Below.refl _ _) _) _)⟩
    exact (results_cell_tmp2 (p := 4) (q := 5) (ty := 207) rfl _ _ w.heap.size 207 (frameSoft 2 cc).1.cells (0, 0) _ rfl (Blk.alloc (heap_alloc_new w _) _) Tryz.underlying207 rfl (by kernel_rfl)).trans rfl
  · as_aux_lemma =>
    go_enter Tryz.func166, Tryz.ntmps166
    go_wp2_with (first | (go_at_call 137; with_reducible refine (With_128 _ _ _ _ _ ?hg).mono ?_; (case hg => first | rfl | (simp; done)); rintro e w1 ⟨rfl, rfl⟩) | (go_at_call 137; with_reducible refine (With_16 _ _ _ _ _ ?hg).mono ?_; (case hg => first | rfl | (simp; done)); rintro e w1 ⟨rfl, rfl⟩) | (go_at_call 137; with_reducible refine (With_FI _ _ _ _ _ ?hg).mono ?_; (case hg => first | rfl | (simp; done)); rintro e w1 ⟨rfl, rfl⟩))
    refine bodyPost_ret (v := .tuple #[(frameSoft 3 cc).1.v, .bool (frameSoft 3 cc).2]) ?_ rfl ⟨rfl, (below_alloc (below_alloc (Below.refl _ _) _) _)⟩
    exact (results_cell_tmp2 (p := 4) (q := 5) (ty := 207) rfl _ _ w.heap.size 207 (frameSoft 3 cc).1.cells (0, 0) _ rfl (Blk.alloc (heap_alloc_new w _) _) Tryz.underlying207 rfl (by kernel_rfl)).trans rfl
  · as_aux_lemma =>
    have e1 : (n == 1) = false := beq_eq_false_iff_ne.mpr h1
    have e2 : (n == 2) = false := beq_eq_false_iff_ne.mpr h2
    have e3 : (n == 3) = false := beq_eq_false_iff_ne.mpr h3
    rw [show frameSoft n cc = (⟨0, 0, 0, false⟩, false) from by simp [frameSoft, h1, h2, h3]]
    go_enter Tryz.func166, Tryz.ntmps166
    go_wp2_with (first | (go_at_call 137; with_reducible refine (With_128 _ _ _ _ _ ?hg).mono ?_; (case hg => first | rfl | (simp; done)); rintro e w1 ⟨rfl, rfl⟩))
    refine bodyPost_ret (v := .tuple #[(((⟨0, 0, 0, false⟩ : Enter), false)).1.v, .bool (((⟨0, 0, 0, false⟩ : Enter), false)).2]) ?_ rfl ⟨rfl, (below_alloc (below_alloc (Below.refl _ _) _) _)⟩
    exact (results_cell_tmp2 (p := 4) (q := 5) (ty := 207) rfl _ _ w.heap.size 207 (((⟨0, 0, 0, false⟩ : Enter), false)).1.cells (0, 0) _ rfl (Blk.alloc (heap_alloc_new w _) _) Tryz.underlying207 rfl (by kernel_rfl)).trans rfl
end Go.Proofs.YtkdaphkpllgmbaaGreat

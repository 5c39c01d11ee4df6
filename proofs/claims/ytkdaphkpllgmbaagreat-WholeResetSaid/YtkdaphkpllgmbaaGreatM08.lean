/-
  Contracts of queue.Peek, Pop at steps.
  Contract of queue.Push at steps.
  Contracts of slices.Reverse at parts, of frame.Parts, core.reversed.
-/
import Derived.Test.YtkdaphkpllgmbaaGreatM07
import Derived.LoopTactic
import Derived.Test.YtkdaphkpllgmbaaGreatM06
import Derived.Test.YtkdaphkpllgmbaaGreatM02
import Derived.BigRegion
namespace Go.Proofs.YtkdaphkpllgmbaaGreat
open Go.RowKit Sp
set_option linter.unusedVariables false
def Sp.Step.cells (s : Step) : Array Value := #[.int .i64 s.kind, .bool s.busy]
def Sp.Step.v (s : Step) : Value := .agg s.cells
theorem grown_new (w : World) {r : Option Nat} {w' : World} (h : w.grownBy w' r) (g : Nat) (hg : w.heap.size ≤ g) (o : Nat) (u : Value) : w.grownBy (w'.setCell ⟨g, o, none⟩ u) r :=
  ⟨h.os, h.tape, h.output, by simpa using h.size, fun k hk hne => (Below.heap_setCell w' ⟨g, o, none⟩ u k (by show k ≠ g; omega)).trans (h.block k hk hne)⟩
theorem Blk.set2 {w : World} {g : Nat} {t : TypeId} {x0 x1 : Value} (B : Blk w g t #[x0, x1]) (a b : Value) : Blk ((w.setCell ⟨g, 0, none⟩ a).setCell ⟨g, 1, none⟩ b) g t #[a, b] := by
  have h0 : LBlk w g t [x0, x1] := B
  have h1 : LBlk _ g t [a, x1] := h0.set_ 0 a
  have h2 : LBlk _ g t [a, b] := h1.set_ 1 b
  exact h2
def headS (q : List Step) : Step := q.headD step0
set_option maxRecDepth 100000 in
set_option maxHeartbeats 1000000 in
theorem Peek_t {w : World} {p : Nat} {r : Regs} {ring : List Value} {a : Nat} {q : List Step} {rest : List Value} {t : TypeId} (h : LBlk w p t (qL r ring a q.length rest)) (hr : RingOf ring a q) :
    Calls Tryz.prog 115 #[.pointer (some ⟨p, 9, none⟩)] w fun e w' => e = .returned (.tuple #[(headS q).v, .bool (!q.isEmpty)]) ∧ Below w.heap.size w w' := by
  have cn := q_n h hr.size
  have ca := q_at h hr.size
  rcases q with _ | ⟨⟨k, b⟩, q⟩
  · have hlt := h.lt
    clear h hr
    replace cn : w.cell? ⟨p, 58, none⟩ = some (.int .i64 0) := cn
    go_enter Tryz.func115, Tryz.ntmps115
    go_wp2
    refine bodyPost_ret (v := .tuple #[.agg #[.int .i64 0, .bool false], .bool false]) ?_ rfl ⟨rfl, below_alloc (below_alloc (Below.refl _ _) _) _⟩
    exact (results_cell_tmp2 (p := 2) (q := 3) (ty := 202) rfl _ _ w.heap.size 202 #[.int .i64 0, .bool false] (0, 0) _ rfl (Blk.alloc (heap_alloc_new w _) _) Tryz.underlying202 rfl (by kernel_rfl)).trans rfl
  · have h0 := hr.get 0 ⟨k, b⟩ rfl
    have ha := hr.ha
    rw [show (a + 0) % 24 = a from by omega] at h0
    have c0 := (q_ring h hr.size (a * 2) (by omega)).trans h0.1
    have c1 := (q_ring h hr.size (a * 2 + 1) (by omega)).trans h0.2
    rw [← Nat.add_assoc] at c1
    have hne : ((((⟨k, b⟩ :: q : List Step).length : Nat) : Int) == 0) = false := beq_eq_false_iff_ne.2 (by simp; omega)
    generalize (((⟨k, b⟩ :: q : List Step).length : Nat) : Int) = L at *
    have ha1 : (0 : Int) ≤ (a : Int) := by omega
    have ha2 : (a : Int) < 24 := by omega
    have hlt := h.lt
    have hf := h.frozen
    clear h hr h0
    go_enter Tryz.func115, Tryz.ntmps115
    go_wp2
    go_region
    all_goals
      go_wp2
      refine bodyPost_ret (v := .tuple #[.agg #[.int .i64 k, .bool b], .bool true]) ?_ rfl ⟨rfl, (below_alloc (Below.refl _ _) _).drew⟩
      exact (results_cell_tmp2 (p := 2) (q := 3) (ty := 202) rfl _ _ w.heap.size 202 #[.int .i64 k, .bool b] (0, 0) _ rfl (Blk.drew (heap_alloc_new w _)) Tryz.underlying202 rfl (by kernel_rfl)).trans rfl
set_option maxRecDepth 100000 in
set_option maxHeartbeats 1000000 in
theorem Pop_nil {w : World} {p : Nat} {r : Regs} {ring : List Value} {a : Nat} {rest : List Value} {t : TypeId} (h : LBlk w p t (qL r ring a 0 rest)) (hr : RingOf ring a []) :
    Calls Tryz.prog 118 #[.pointer (some ⟨p, 9, none⟩)] w fun e w' => e = .returned (.tuple #[.agg #[.int .i64 0, .bool false], .bool false]) ∧ Below w.heap.size w w' := by
  have HP := Lib.hid (Peek_t (w := w.alloc (.cells #[.int .i64 0, .bool false] 202)) (h.alloc _) hr)
  clear h hr
  go_enter Tryz.func118, Tryz.ntmps118
  go_wp2_with fail
  refine HP.out.mono ?_
  rintro e w1 ⟨rfl, hb⟩
  have B0 := (Blk.newAt3 w 202 #[.int .i64 0, .bool false] _ rfl).below hb (by simp)
  have b0 := B0.cell 0
  have b1 := B0.cell 1
  have f0 := B0.frozen 0
  have f1 := B0.frozen 1
  have hz : w.heap.size < w1.heap.size := B0.lt
  have hbb := below_then (below_alloc (Below.refl w.heap.size w) _) hb
  have HB0 := Lib.hid B0
  clear hb B0
  rw [show headS [] = ⟨0, false⟩ from rfl, show Step.v ⟨0, false⟩ = .agg #[.int .i64 0, .bool false] from rfl]
  go_wp2
  have BR := (Blk.set2 HB0.out (.int .i64 0) (.bool false)).alloc (.cells #[.int .i64 0, .bool false] 202)
  refine bodyPost_ret (v := .tuple #[.agg #[.int .i64 0, .bool false], .bool false]) ?_ rfl ⟨rfl, ?_⟩
  · exact (results_cell_tmp2 (p := 2) (q := 3) (ty := 202) rfl _ _ w.heap.size 202 #[.int .i64 0, .bool false] (0, 0) _ rfl BR Tryz.underlying202 rfl (by kernel_rfl)).trans rfl
  · exact ((hbb.setCell (Nat.le_refl _) _).setCell (Nat.le_refl _) _).alloc (by simp; omega) _
set_option maxRecDepth 100000 in
set_option maxHeartbeats 1000000 in
theorem Pop_cons {w : World} {p : Nat} {r : Regs} {ring : List Value} {a : Nat} {k : Int} {b : Bool} {q : List Step} {rest : List Value} {t : TypeId} (h : LBlk w p t (qL r ring a (⟨k, b⟩ :: q : List Step).length rest)) (hr : RingOf ring a (⟨k, b⟩ :: q)) :
    Calls Tryz.prog 118 #[.pointer (some ⟨p, 9, none⟩)] w fun e w' => e = .returned (.tuple #[.agg #[.int .i64 k, .bool b], .bool true]) ∧ w.grownBy w' (some p) ∧
      LBlk w' p t (qL r ((ring.set (a * 2) (.int .i64 0)).set (a * 2 + 1) (.bool false)) ((a + 1) % 24) q.length rest) := by
  have HP := Lib.hid (Peek_t (w := w.alloc (.cells #[.int .i64 0, .bool false] 202)) (h.alloc _) hr)
  have h0 := hr.get 0 ⟨k, b⟩ rfl
  have ha := hr.ha
  have hs := hr.size
  have hql := hr.hq
  simp only [List.length_cons] at hql
  rw [show (a + 0) % 24 = a from by omega] at h0
  have hlt := h.lt
  go_enter Tryz.func118, Tryz.ntmps118
  go_wp2_with fail
  refine HP.out.mono ?_
  rintro e w1 ⟨rfl, hb⟩
  have B0 := (Blk.newAt3 w 202 #[.int .i64 0, .bool false] _ rfl).below hb (by simp)
  have b0 := B0.cell 0
  have b1 := B0.cell 1
  have f0 := B0.frozen 0
  have f1 := B0.frozen 1
  have hz : w.heap.size < w1.heap.size := B0.lt
  have hpz : p < w1.heap.size := by omega
  have hbb := below_then (below_alloc (Below.refl w.heap.size w) _) hb
  have hP : LBlk w1 p t _ := (h.alloc _).below hb (by simp; omega)
  have ca := q_at hP hs
  have cn := q_n hP hs
  have c0 := (q_ring hP hs (a * 2) (by omega)).trans h0.1
  have c1 := (q_ring hP hs (a * 2 + 1) (by omega)).trans h0.2
  rw [← Nat.add_assoc] at c1
  have hf := hP.frozen
  have HB0 := Lib.hid B0
  have HPP := Lib.hid hP
  have HS := Lib.hid hs
  have ha1 : (0 : Int) ≤ (a : Int) := by omega
  have ha2 : (a : Int) < 24 := by omega
  have hne : p ≠ w.heap.size := by omega
  have hi57 : ∀ j, 9 + a * 2 + j = 57 → ¬ j < 2 := fun j hj => by omega
  have hw1 : IntKind.i64.wrap ((a : Int) + 1) = (a : Int) + 1 := by rw [IntKind.wrap_i64]; omega
  clear hb B0 hP h hr h0
  rw [show headS (⟨k, b⟩ :: q) = ⟨k, b⟩ from rfl, show Step.v ⟨k, b⟩ = .agg #[.int .i64 k, .bool b] from rfl, show (!(⟨k, b⟩ :: q : List Step).isEmpty) = true from rfl]
  go_wp2
  go_region
  all_goals
    go_wp2
    rw [show ((a : Int) + 1) % 24 = (((a + 1) % 24 : Nat) : Int) from by omega]
    have r1 : (ring.set (a * 2) (Value.int .i64 0)).length = 48 := by rw [List.length_set]; exact HS.out
    have r2 : ((ring.set (a * 2) (Value.int .i64 0)).set (a * 2 + 1) (.bool false)).length = 48 := by rw [List.length_set]; exact r1
    have s1 := q_setring HPP.out HS.out (a * 2) (by omega) (.int .i64 0)
    have s2 := q_setring s1 r1 (a * 2 + 1) (by omega) (.bool false)
    rw [← Nat.add_assoc] at s2
    have s3 := q_setn (q_setat s2 r2 ((a + 1) % 24)) r2 q.length
    have s4 := ((LBlk.far (LBlk.far s3 (p := ⟨w.heap.size, 0, none⟩) hne (.int .i64 k)) (p := ⟨w.heap.size, 1, none⟩) hne (.bool b)).alloc (.cells #[.int .i64 k, .bool b] 202)).alloc (.cells #[.int .i64 0, .bool false] 202)
    have B5 := (Blk.set2 ((((HB0.out.far hne.symm (p := ⟨p, 9 + a * 2, none⟩) (.int .i64 0)).far hne.symm (p := ⟨p, 9 + a * 2 + 1, none⟩) (.bool false)).far hne.symm (p := ⟨p, 57, none⟩) (.int .i64 (((a + 1) % 24 : Nat) : Int))).far hne.symm (p := ⟨p, 58, none⟩) (.int .i64 (q.length : Int))) (.int .i64 k) (.bool b)).alloc (.cells #[.int .i64 k, .bool b] 202) |>.alloc (.cells #[.int .i64 0, .bool false] 202)
    refine bodyPost_ret (v := .tuple #[.agg #[.int .i64 k, .bool b], .bool true]) ?_ rfl ⟨rfl, ?_, s4.drew⟩
    · exact (results_cell_tmp2 (p := 2) (q := 3) (ty := 202) rfl _ _ w.heap.size 202 #[.int .i64 k, .bool b] (0, 0) _ rfl B5.drew Tryz.underlying202 rfl (by kernel_rfl)).trans rfl
    · have g0 : w.grownBy w1 (some p) := ⟨hbb.os, hbb.tape, hbb.output, hbb.size, fun i hi _ => hbb.block i hi⟩
      have g4 := grown_set w (grown_set w (grown_set w (grown_set w g0 (9 + a * 2) (.int .i64 0)) (9 + a * 2 + 1) (.bool false)) 57 (.int .i64 (((a + 1) % 24 : Nat) : Int))) 58 (.int .i64 (q.length : Int))
      exact grown_drew w (grown_alloc w (grown_alloc w (grown_new w (grown_new w g4 w.heap.size (Nat.le_refl _) 0 _) w.heap.size (Nat.le_refl _) 1 _) _) _)
end Go.Proofs.YtkdaphkpllgmbaaGreat
namespace Go.Proofs.YtkdaphkpllgmbaaGreat
open Go.RowKit Sp
set_option linter.unusedVariables false
theorem step_get {w : World} {B n : Nat} {A : Option Addr} {ys : List Step} (h : Reads w B 2 A n (stepsV ys)) {k : Nat} (hk : k < n) :
    ∃ ad y, A = some ad ∧ ad.block < B ∧ ys[k]? = some y ∧ w.cell? (ad.add (k * 2)) = some (.int .i64 y.kind) ∧ w.cell? ⟨(ad.add (k * 2)).block, (ad.add (k * 2)).off + 1, none⟩ = some (.bool y.busy) := by
  obtain ⟨ad, y, h1, hb, hy, hc⟩ := Reads.elem (size := 2) (en := stepV) step_len (by omega) h hk
  refine ⟨ad, y, h1, hb, hy, ?_, ?_⟩
  · have := hc 0 _ rfl
    rwa [Nat.add_zero] at this
  · have := hc 1 _ rfl
    rwa [← add_of_add, add_pos _ 1 (by omega)] at this
theorem take_snoc (l xs : List Step) (k : Nat) (x : Step) (h : xs[k]? = some x) : l ++ xs.take (k + 1) = (l ++ xs.take k) ++ [x] := by
  obtain ⟨hk, rfl⟩ := List.getElem?_eq_some_iff.1 h
  rw [List.take_succ_eq_append_getElem hk, List.append_assoc]
/-- A slice that lies apart from block p. -/
def Apart (p n : Nat) (A : Option Addr) : Prop := 0 < n → ∀ ad, A = some ad → ad.block ≠ p
theorem Reads.grown_ {w w' : World} {B size n : Nat} {A : Option Addr} {xs : List Value} {g : Nat} (h : Reads w B size A n xs) (hg : w.grownBy w' (some g)) (hne : Apart g n A) (hB : B ≤ w.heap.size) : Reads w' B size A n xs :=
  ⟨h.1, fun hn => by
    obtain ⟨ad, e, hb, hc⟩ := h.2 hn
    refine ⟨ad, e, hb, fun j u hu => ?_⟩
    have hk := hc j u hu
    rw [← hk]
    exact World.cell?_of_block (hg.block _ (by rw [block_of_add]; omega) (by rw [block_of_add]; intro e2; injection e2 with e2; exact hne hn ad e e2))⟩
set_option maxRecDepth 100000 in
set_option maxHeartbeats 2000000 in
theorem Push_t {w : World} {p : Nat} {r : Regs} {ring : List Value} {a : Nat} {q xs : List Step} {rest : List Value} {t : TypeId} (A : Option Addr) (n c B : Nat) (h : LBlk w p t (qL r ring a q.length rest)) (hr : RingOf ring a q)
    (hx : Reads w B 2 A n (stepsV xs)) (hB : B ≤ w.heap.size) (hne : Apart p n A) (hxl : xs.length = n) (hn : n ≤ 1048576) :
    Calls Tryz.prog 112 #[.pointer (some ⟨p, 9, none⟩), .slice A n c] w fun e w' => e = .returned (.bool (decide (q.length + n ≤ 24))) ∧ w.grownBy w' (some p) ∧
      ∃ ring' a', LBlk w' p t (qL r ring' a' (pushQ q xs).length rest) ∧ RingOf ring' a' (pushQ q xs) := by
  have cn := q_n h hr.size
  have hl := hr.hq
  have hlt := h.lt
  by_cases hfit : q.length + n ≤ 24
  · rw [decide_eq_true hfit, show pushQ q xs = q ++ xs from by unfold pushQ; rw [if_pos (by omega)]]
    have HX := Lib.hid hxl
    clear hxl
    have hq24 : (q.length : Int) ≤ 24 := by omega
    have hfit2 : (n : Int) ≤ 24 - (q.length : Int) := by omega
    have HH := Lib.hid h
    have HR := Lib.hid hr
    have HFIT := Lib.hid hfit
    clear h hr hfit
    go_enter Tryz.func112, Tryz.ntmps112
    go_wp2
    go_loopw [17] (fun i wr => ∃ k : Nat, k ≤ n ∧ i = .int .i64 k ∧ w.grownBy wr (some p) ∧ ∃ ring', LBlk wr p t (qL r ring' a (q.length + k) rest) ∧ RingOf ring' a (q ++ xs.take k)) (fun i _ => n - (intOf i).toNat)
    case atStart => exact ⟨0, by omega, rfl, World.grownBy.refl w _, ring, HH.out, by simpa using HR.out⟩
    case round =>
      obtain ⟨k, hk, rfl, hg, ring', hb', hq'⟩ := hrel
      by_cases hlk : k < n
      · have hr' := hx.grown_ hg hne hB
        obtain ⟨ad, ⟨xk, xb⟩, rfl, hab, hy, p0, p1⟩ := step_get hr' hlk
        have hlen : (q ++ xs.take k).length = q.length + k := by have := HX.out; simp; omega
        have hs := hq'.size
        have ca := q_at hb' hs
        have cn' := q_n hb' hs
        have ha := hq'.ha
        obtain ⟨u0, hu0⟩ := hq'.cell ((a + (q.length + k)) % 24 * 2) (by omega)
        obtain ⟨u1, hu1⟩ := hq'.cell ((a + (q.length + k)) % 24 * 2 + 1) (by omega)
        have d0 := (q_ring hb' hs _ (by omega)).trans hu0
        have d1 := (q_ring hb' hs _ (by omega)).trans hu1
        rw [← Nat.add_assoc] at d1
        have hf := hb'.frozen
        have hz := hb'.lt
        have hm24 : q.length + k < 24 := by have := HFIT.out; omega
        have HQ := Lib.hid (hq'.push ⟨xk, xb⟩ hlen hm24)
        have HT := Lib.hid (take_snoc q xs k _ hy)
        have HB := Lib.hid hb'
        have HG := Lib.hid hg
        have HS := Lib.hid hs
        have hadw : ad.block < wr.heap.size := by have := hg.size; omega
        have hadp : ad.block ≠ p := hne (by omega) ad rfl
        clear hu0 hu1 hb' hq' hr' hy hlen hg hs
        obtain ⟨m, hm⟩ : ∃ m, q.length + k = m := ⟨_, rfl⟩
        rw [hm] at cn' d0 d1 HQ HB hm24
        have HM := Lib.hid hm
        clear hm
        have hw : IntKind.i64.wrap ((a : Int) + (m : Int)) = (a : Int) + m := by rw [IntKind.wrap_i64]; omega
        have ht : Int.tmod ((a : Int) + (m : Int)) 24 = (((a + m) % 24 : Nat) : Int) := by rw [Int.tmod_eq_emod_of_nonneg (by omega)]; omega
        have hwt : IntKind.i64.wrap (((a + m) % 24 : Nat) : Int) = (((a + m) % 24 : Nat) : Int) := by rw [IntKind.wrap_i64]; omega
        have hj : (a + m) % 24 < 24 := Nat.mod_lt _ (by omega)
        obtain ⟨j, hjj⟩ : ∃ j, (a + m) % 24 = j := ⟨_, rfl⟩
        rw [hjj] at ht hwt hj d0 d1 HQ
        clear hjj
        have hj0 : (0 : Int) ≤ (j : Int) := by omega
        have hj1 : (j : Int) < 24 := by omega
        have hi1 : ¬ 57 = 9 + j * 2 := by omega
        have hi2 : ¬ 57 = 9 + j * 2 + 1 := by omega
        have hi3 : ¬ 58 = 9 + j * 2 := by omega
        have hi4 : ¬ 58 = 9 + j * 2 + 1 := by omega
        go_wp2
        go_region
        all_goals
          go_wp2
          have s1 := q_setring HB.out HS.out (j * 2) (by omega) (.int .i64 xk)
          have r1 : (ring'.set (j * 2) (Value.int .i64 xk)).length = 48 := by rw [List.length_set]; exact HS.out
          have r2 : ((ring'.set (j * 2) (Value.int .i64 xk)).set (j * 2 + 1) (.bool xb)).length = 48 := by rw [List.length_set]; exact r1
          have s2 := q_setring s1 r1 (j * 2 + 1) (by omega) (.bool xb)
          rw [← Nat.add_assoc] at s2
          have s3 := ((q_setn s2 r2 (m + 1)).alloc (.cells #[.int .i64 xk, .bool xb] 202)).drew
          rw [show ((m + 1 : Nat) : Int) = (m : Int) + 1 from by omega] at s3
          rw [show m + 1 = q.length + (k + 1) from by have := HM.out; omega] at s3
          refine ⟨⟨k + 1, by omega, by go_num, ?_, _, s3, ?_⟩, by simp [intOf]; omega⟩
          · exact grown_drew w (grown_alloc w (grown_set w (grown_set w (grown_set w HG.out _ _) _ _) _ _) _)
          · rw [HT.out]; exact HQ.out
      · obtain rfl : k = n := by omega
        rw [List.take_of_length_le (by rw [HX.out]; exact Nat.le_refl _)] at hq'
        have e : (q ++ xs).length = q.length + k := by rw [List.length_append, HX.out]
        rw [← e] at hb'
        go_wp2
        go_ret
        exact ⟨rfl, hg, ring', a, hb', hq'⟩
  · rw [decide_eq_false hfit, show pushQ q xs = q from by unfold pushQ; rw [if_neg (by omega)]]
    have hfit2 : 24 - (q.length : Int) < (n : Int) := by omega
    clear hfit hxl
    go_enter Tryz.func112, Tryz.ntmps112
    go_wp2
    go_ret
    exact ⟨rfl, World.grownBy.refl w _, ring, a, h, hr⟩
end Go.Proofs.YtkdaphkpllgmbaaGreat
namespace Go.Proofs.YtkdaphkpllgmbaaGreat
open Go.RowKit Sp
set_option linter.unusedVariables false
theorem part_len : ∀ y : Part, (partV y).length = 2 := fun _ => rfl
theorem part_get {w : World} {B n : Nat} {A : Option Addr} {ys : List Part} (h : Reads w B 2 A n (partsV ys)) {k : Nat} {y : Part} (hy : ys[k]? = some y) (hk : k < n) :
    ∃ ad, A = some ad ∧ ad.block < B ∧ w.cell? (ad.add (k * 2)) = some (.int .i64 y.reg) ∧ w.cell? ⟨(ad.add (k * 2)).block, (ad.add (k * 2)).off + 1, none⟩ = some (.bool y.high) := by
  obtain ⟨ad, y', h1, hb, hy', hc⟩ := Reads.elem (size := 2) (en := partV) part_len (by omega) h hk
  rw [hy] at hy'
  obtain rfl := Option.some.inj hy'
  refine ⟨ad, h1, hb, ?_, ?_⟩
  · have := hc 0 _ rfl
    rwa [Nat.add_zero] at this
  · have := hc 1 _ rfl
    rwa [← add_of_add, add_pos _ 1 (by omega)] at this
theorem parts_set (P : List Part) (k : Nat) (x : Part) (cur : Array Value) (hk : k < P.length) (hc : cur.toList.take (P.length * 2) = partsV P) :
    ((cur.setIfInBounds (k * 2) (.int .i64 x.reg)).setIfInBounds (k * 2 + 1) (.bool x.high)).toList.take ((P.set k x).length * 2) = partsV (P.set k x) := by
  have hl : (partsV P).length = P.length * 2 := flat_length part_len P
  have hlc : P.length * 2 ≤ cur.size := by
    have := congrArg List.length hc
    rw [List.length_take, Array.length_toList (xs := cur), hl] at this
    omega
  apply List.ext_getElem?
  intro q
  rw [List.getElem?_take, List.length_set]
  by_cases hq : q < P.length * 2
  · rw [if_pos hq]
    have e1 : q = q / 2 * 2 + q % 2 := by omega
    have hqd : q / 2 < P.length := by omega
    have hr : q % 2 < 2 := Nat.mod_lt _ (by omega)
    have hset : (P.set k x)[q / 2]? = some (if q / 2 = k then x else P[q / 2]) := by
      rw [List.getElem?_set]
      by_cases h : k = q / 2
      · rw [if_pos h, if_pos hk, if_pos h.symm]
      · rw [if_neg h, if_neg (fun e => h e.symm), List.getElem?_eq_getElem hqd]
    have hget := flat_get part_len (P.set k x) (q / 2) (q % 2) _ hset hr
    rw [← e1] at hget
    show _ = (partsV (P.set k x))[q]?
    unfold partsV
    rw [hget]
    have hold : cur.toList[q]? = (partsV P)[q]? := by rw [← hc, List.getElem?_take, if_pos hq]
    have hold2 := flat_get part_len P (q / 2) (q % 2) _ (List.getElem?_eq_getElem hqd) hr
    rw [← e1] at hold2
    by_cases h : q / 2 = k
    · rw [if_pos h]
      have hq' : q = k * 2 + q % 2 := by omega
      have hsz : k * 2 + 1 < cur.size := by omega
      rw [Array.getElem?_toList]
      generalize q % 2 = r at *
      clear hget hold hold2 hset e1 hqd
      subst hq'
      have hcase : r = 0 ∨ r = 1 := by omega
      rcases hcase with rfl | rfl
      all_goals
        try simp only [Nat.add_zero]
        repeat rw [Array.getElem?_setIfInBounds_ne (by omega)]
        rw [Array.getElem?_setIfInBounds_self_of_lt (by first | omega | (simp only [Array.size_setIfInBounds]; omega))]
        rfl
    · rw [if_neg h, Array.getElem?_toList]
      have hne : ∀ j, j < 2 → k * 2 + j ≠ q := fun j hj e => h (by omega)
      rw [Array.getElem?_setIfInBounds_ne (hne 1 (by omega)), Array.getElem?_setIfInBounds_ne (by have := hne 0 (by omega); omega), ← Array.getElem?_toList, hold]
      unfold partsV
      rw [hold2]
  · rw [if_neg hq, List.getElem?_eq_none (by rw [partsV, flat_length part_len, List.length_set]; omega)]
def part0 : Part := ⟨0, false⟩
/-- The first k, and the last k, have changed places. -/
def revK (L : List Part) (n k : Nat) : List Part := (List.range n).map fun q => if q < k ∨ n - 1 - q < k then L.getD (n - 1 - q) part0 else L.getD q part0
theorem revK_len (L : List Part) (n k : Nat) : (revK L n k).length = n := by simp [revK]
theorem revK_get (L : List Part) (n k q : Nat) (hq : q < n) : (revK L n k)[q]? = some (if q < k ∨ n - 1 - q < k then L.getD (n - 1 - q) part0 else L.getD q part0) := by simp [revK, hq]
theorem revK_zero (L : List Part) (n : Nat) (h : L.length = n) : revK L n 0 = L := by
  apply List.ext_getElem?
  intro q
  by_cases hq : q < n
  · rw [revK_get L n 0 q hq, if_neg (by omega), List.getElem?_eq_getElem (by omega), List.getD_eq_getElem?_getD, List.getElem?_eq_getElem (by omega)]
    rfl
  · rw [List.getElem?_eq_none (by rw [revK_len]; omega), List.getElem?_eq_none (by omega)]
theorem revK_all (L : List Part) (n k m : Nat) (h : L.length = n) (hkm : k + m + 1 = n) (hk : m ≤ k) (hk2 : k ≤ m + 1) : revK L n k = L.reverse := by
  apply List.ext_getElem?
  intro q
  by_cases hq : q < n
  · rw [revK_get L n k q hq, List.getElem?_reverse (by omega), h]
    by_cases hc : q < k ∨ n - 1 - q < k
    · rw [if_pos hc, List.getD_eq_getElem?_getD, List.getElem?_eq_getElem (by omega)]
      rfl
    · have : q = n - 1 - q := by omega
      rw [if_neg hc, ← this, List.getD_eq_getElem?_getD, List.getElem?_eq_getElem (by omega)]
      rfl
  · rw [List.getElem?_eq_none (by rw [revK_len]; omega), List.getElem?_eq_none (by rw [List.length_reverse]; omega)]
theorem revK_step (L : List Part) (n k m : Nat) (hkm : k + m + 1 = n) (hk : k < m) (x y : Part) (hx : (revK L n k)[k]? = some x) (hy : (revK L n k)[m]? = some y) : revK L n (k + 1) = ((revK L n k).set k y).set m x := by
  apply List.ext_getElem?
  intro q
  by_cases hq : q < n
  · rw [List.getElem?_set, List.length_set, revK_len, List.getElem?_set, revK_len, revK_get L n (k + 1) q hq, revK_get L n k q hq]
    rw [revK_get L n k k (by omega), if_neg (by omega)] at hx
    rw [revK_get L n k m (by omega), if_neg (by omega)] at hy
    obtain rfl := Option.some.inj hx
    obtain rfl := Option.some.inj hy
    by_cases h1 : m = q
    · subst h1
      rw [if_pos rfl, if_pos (by omega), if_pos (by omega), show n - 1 - m = k by omega]
    · rw [if_neg h1]
      by_cases h2 : k = q
      · subst h2
        rw [if_pos rfl, if_pos (by omega), if_pos (by omega), show n - 1 - k = m by omega]
      · rw [if_neg h2]
        by_cases hc : q < k ∨ n - 1 - q < k
        · rw [if_pos hc, if_pos (by omega)]
        · rw [if_neg hc, if_neg (by omega)]
  · rw [List.getElem?_eq_none (by rw [revK_len]; omega), List.getElem?_eq_none (by rw [List.length_set, List.length_set, revK_len]; omega)]
set_option maxRecDepth 100000 in
set_option maxHeartbeats 8000000 in
theorem Reverse_any {B n c : Nat} {A : Option Addr} (L : List Part) (w : World) (h : w.ownsRow B 219 2 (.slice A n c) n (partsV L)) (hL : L.length = n) (hn : n ≤ 1048576) :
    Calls Tryz.prog 155 #[.slice A n c] w fun e w' => e = .returned (.tuple #[]) ∧ w'.ownsRow B 219 2 (.slice A n c) n (partsV L.reverse) ∧ w.grownBy w' (Value.slice A n c).ownBlock := by
  by_cases hn0 : n = 0
  · subst hn0
    obtain rfl := List.eq_nil_of_length_eq_zero hL
    go_enter Tryz.func155, Tryz.ntmps155
    go_wp2
    refine wp_loop_rounds 1 ?_
    rw [rounds_succ]
    go_wp2
    go_end0
    exact ⟨rfl, h, World.grownBy.refl _ _⟩
  · have hn1 : ((n : Int) - 1) = ((n - 1 : Nat) : Int) := by omega
    have HL := Lib.hid hL
    have HN1 := Lib.hid hn1
    clear hL hn1
    go_enter Tryz.func155, Tryz.ntmps155
    go_wp2
    go_loopw [2, 3] (fun i j wr => ∃ k m : Nat, k + m + 1 = n ∧ k ≤ m + 1 ∧ i = .int .i64 (k : Int) ∧ j = .int .i64 (m : Int) ∧ wr.ownsRow B 219 2 (.slice A n c) n (partsV (revK L n k)) ∧ w.grownBy wr (Value.slice A n c).ownBlock) (fun _ j _ => (intOf j).toNat)
    case atStart => exact ⟨0, n - 1, by omega, by omega, rfl, by rw [HN1.out], by rw [revK_zero L n HL.out]; exact h, World.grownBy.refl _ _⟩
    case round =>
      obtain ⟨k, m, hkm, hk2, rfl, rfl, hown, hg⟩ := hrel
      by_cases hlt : k < m
      · have hlt' : (k : Int) < (m : Int) := by omega
        have hmn : (m : Int) < (n : Int) := by omega
        have hkn : (k : Int) < (n : Int) := by omega
        have hk0 : (0 : Int) ≤ (k : Int) := by omega
        have hm0 : (0 : Int) ≤ (m : Int) := by omega
        obtain ⟨⟨x0, x1⟩, hx⟩ : ∃ x, (revK L n k)[k]? = some x := ⟨_, revK_get L n k k (by omega)⟩
        obtain ⟨⟨y0, y1⟩, hy⟩ : ∃ y, (revK L n k)[m]? = some y := ⟨_, revK_get L n k m (by omega)⟩
        have HST := Lib.hid (revK_step L n k m hkm hlt _ _ hx hy)
        have HG := Lib.hid hg
        have hrl := (own_reads hown)
        obtain ⟨A', c', hAc, hrl, _, _⟩ := hrl
        injection hAc with hA1 _ hA3
        subst hA1 hA3
        obtain ⟨ad, hadE, _, p0, p1⟩ := part_get hrl hx (by omega)
        obtain ⟨ad', hadE', _, r0, r1⟩ := part_get hrl hy (by omega)
        obtain ⟨b, cap, cur, hv, hBb, hcur, hnc, hcm2, hcs, htk⟩ : ∃ b cap cur, Value.slice A n c = .slice (some ⟨b, 0, none⟩) n cap ∧ B ≤ b ∧ Blk wr b 219 cur ∧ n ≤ cap ∧ cap ≤ maxLen ∧ cur.size = cap * 2 ∧ cur.toList.take (n * 2) = partsV (revK L n k) := by
          rcases hown.2 with ⟨_, h0⟩ | h
          · exact absurd h0 hn0
          · exact h
        injection hv with hv1 hv2 hv3
        subst hv1 hv3
        injection hadE with hadE
        injection hadE' with hadE'
        subst hadE hadE'
        rw [addr_add0] at p0 p1 r0 r1
        dsimp only at p0 p1 r0 r1
        have fb := hcur.frozen
        have hadd : ∀ q, (⟨b, 0, none⟩ : Addr).add (q * 2) = ⟨b, q * 2, none⟩ := fun q => addr_add0 b _
        have hne : k ≠ m := by omega
        have hne2 : m ≠ k := by omega
        have hi0 : ∀ j, j < 2 → ¬ k * 2 + j = m * 2 := fun j hj e => by omega
        have h0j : ∀ j, j < 2 → ¬ k * 2 = m * 2 + j := fun j hj e => by omega
        have hi0' : ∀ j, j < 2 → ¬ m * 2 + j = k * 2 := fun j hj e => by omega
        have h0j' : ∀ j, j < 2 → ¬ m * 2 = k * 2 + j := fun j hj e => by omega
        have HX := Lib.hid hx
        have HY := Lib.hid hy
        have HOWN := Lib.hid hown
        clear hx hy hrl hown hg h
        go_wp2
        go_region
        all_goals
          go_wp2
          have hW := ((((hcur.set_ (k * 2) (.int .i64 y0)).set_ (k * 2 + 1) (.bool y1)).set_ (m * 2) (.int .i64 x0)).set_ (m * 2 + 1) (.bool x1)).drew
          have hs1 := parts_set (revK L n k) k ⟨y0, y1⟩ cur (by rw [revK_len]; omega) (by rw [revK_len]; exact htk)
          have hs2 := parts_set ((revK L n k).set k ⟨y0, y1⟩) m ⟨x0, x1⟩ _ (by rw [List.length_set, revK_len]; omega) hs1
          rw [← HST.out, revK_len] at hs2
          refine ⟨⟨k + 1, m - 1, by omega, by omega, by go_num, ?_, ⟨by rw [partsV, flat_length part_len, revK_len], .inr ⟨b, _, _, rfl, hBb, hW, hnc, hcm2, by simp only [Array.size_setIfInBounds]; exact hcs, hs2⟩⟩, ?_⟩, ?_⟩
          · rw [show ((m - 1 : Nat) : Int) = (m : Int) - 1 by omega]
          · exact (HG.out).trans (grown_drew _ (grown_set _ (grown_set _ (grown_set _ (grown_set _ (World.grownBy.refl _ _) _ _) _ _) _ _) _ _))
          · simp [intOf]; omega
      · have hle : (m : Int) ≤ (k : Int) := by omega
        have HR := Lib.hid (revK_all L n k m HL.out hkm (by omega) hk2)
        go_wp2
        go_end0
        exact ⟨rfl, by rw [← HR.out]; exact hown, hg⟩
theorem order_len (post : UInt8) (stack : Int) : (order post stack).length ≤ 16 := by rw [← orderTo_8]; exact orderTo_len _ _ 8
theorem Order_255 (w : World) : Calls Tryz.prog 154 #[.int .u8 255, .int .i64 4] w (OwnParts (order 255 4) w) := Order_t 255 4 w
theorem Order_129 (w : World) : Calls Tryz.prog 154 #[.int .u8 129, .int .i64 4] w (OwnParts (order 129 4) w) := Order_t 129 4 w
theorem OwnParts.open_ {l : List Part} {w w' : World} {e : Ending} (h : OwnParts l w e w') : ∃ A c, e = .returned (.slice A l.length c) ∧ w'.ownsRow w.heap.size 219 2 (.slice A l.length c) l.length (partsV l) ∧ Below w.heap.size w w' := by
  obtain ⟨v, h1, h2, h3⟩ := h
  obtain ⟨A, c, rfl, _, _, _⟩ := own_reads h2
  exact ⟨A, c, h1, h2, h3⟩
set_option maxRecDepth 100000 in
set_option maxHeartbeats 1000000 in
theorem Parts_t (whole : Bool) (w : World) :
    Calls Tryz.prog 138 #[.bool whole] w (OwnParts (partsOf whole) w) := by
  cases whole
  · have hl := order_len 129 4
    have HO := Lib.hid (fun W => Order_129 W)
    rw [show partsOf false = (order 129 4).reverse from rfl]
    generalize order 129 4 = l at *
    go_enter Tryz.func138, Tryz.ntmps138
    go_wp2_with (first | (go_at_call 154; refine (HO.out _).mono ?_; rintro e w1 ho; obtain ⟨A, c, rfl, hown, hbl⟩ := ho.open_; clear ho) | (go_at_call 155; refine (Reverse_any l _ hown rfl (by omega)).mono ?_; rintro e w2 ⟨rfl, hown2, hg⟩))
    go_ret
    exact ⟨_, rfl, by rw [List.length_reverse]; exact hown2, below_own hbl hown hg hbl.size⟩
  · have hl := order_len 255 4
    have HO := Lib.hid (fun W => Order_255 W)
    rw [show partsOf true = (order 255 4).reverse from rfl]
    generalize order 255 4 = l at *
    go_enter Tryz.func138, Tryz.ntmps138
    go_wp2_with (first | (go_at_call 154; refine (HO.out _).mono ?_; rintro e w1 ho; obtain ⟨A, c, rfl, hown, hbl⟩ := ho.open_; clear ho) | (go_at_call 155; refine (Reverse_any l _ hown rfl (by omega)).mono ?_; rintro e w2 ⟨rfl, hown2, hg⟩))
    go_ret
    exact ⟨_, rfl, by rw [List.length_reverse]; exact hown2, below_own hbl hown hg hbl.size⟩
theorem rev_take (l : List Part) (k m : Nat) (h : k + (m + 1) = l.length) (y : Part) (hy : l[m]? = some y) : l.reverse.take (k + 1) = l.reverse.take k ++ [y] := by
  have hk : k < l.reverse.length := by rw [List.length_reverse]; omega
  rw [List.take_succ_eq_append_getElem hk, List.getElem_reverse]
  congr 2
  have e : l.length - 1 - k = m := by omega
  simp only [e]
  exact (List.getElem?_eq_some_iff.1 hy).2
set_option maxRecDepth 100000 in
set_option maxHeartbeats 1000000 in
theorem reversed_t (l : List Part) (A : Option Addr) (n c B : Nat) (w : World) (hr : Reads w B 2 A n (partsV l)) (hB : B ≤ w.heap.size) (hln : l.length = n) (hn : n ≤ 1048576) :
    Calls Tryz.prog 195 #[.slice A n c] w (OwnParts l.reverse w) := by
  obtain ⟨i0, hi, hz0, hz1, hz2⟩ := info_parts partZero
  have HL := Lib.hid hln
  clear hln
  go_enter Tryz.func195, Tryz.ntmps195
  go_wp2
  go_loopw [3, 4] (fun v i wr => ∃ k j : Nat, k + j = n ∧ i = .int .i64 ((j : Int) - 1) ∧ wr.ownsRow w.heap.size 219 2 v k (partsV (l.reverse.take k)) ∧ Below w.heap.size w wr) (fun _ i _ => (intOf i + 1).toNat)
  case atStart => exact ⟨0, n, by omega, rfl, own_nil _ _ _ _, Below.refl _ _⟩
  case round =>
    obtain ⟨k, j, hkj, rfl, hown, hbl⟩ := hrel
    rcases j with _ | m
    · obtain rfl : k = n := by omega
      have hown2 : World.ownsRow _ _ _ _ _ _ _ := hown
      rw [List.take_of_length_le (by rw [List.length_reverse, HL.out]; exact Nat.le_refl _)] at hown2
      have HO := Lib.hid hown2
      clear hown hown2 hr
      go_wp2
      go_ret
      exact ⟨_, rfl, by rw [List.length_reverse, HL.out]; exact HO.out, hbl⟩
    · rw [show (((m + 1 : Nat) : Int) - 1) = (m : Int) from by omega] at *
      have hr2 := hr.below (hbl.mono hB)
      obtain ⟨⟨yr, yh⟩, hy⟩ : ∃ y, l[m]? = some y := ⟨_, List.getElem?_eq_getElem (by rw [HL.out]; omega)⟩
      obtain ⟨ad, rfl, hab, p0, p1⟩ := part_get hr2 hy (by omega)
      have HT := Lib.hid (rev_take l k m (by rw [HL.out]; omega) _ hy)
      have hm0 : (0 : Int) ≤ (m : Int) := by omega
      have hmn : (m : Int) < (n : Int) := by omega
      have hbs := hbl.size
      generalize l.reverse.take k = L at *
      clear hr hr2 hy
      go_wp2_with (at_builtin; refine wpList_append_any _ rfl (.tmp 12) (.tmp 17) 206 rfl w.heap.size 219 i0 (.agg #[.int .i64 0, .bool false]) 2 16 Tryz.underlying206 hi hz0 hz1 hz2 rfl (by omega) u3 k (partsV L) rfl (hown.alloc _) (wr.heap.size + 1) (some ⟨wr.heap.size, 0, none⟩) 1 1 (partV ⟨yr, yh⟩) rfl (Reads.newS wr _ #[.int .i64 yr, .bool yh] 1 2 _ rfl (by omega)) (part_one _) (by simp only [maxLen]; omega) (by omega) (Nat.le_trans hbs (by simp)) ?_; intro v1 w1 hown1 hg1 hat1)
      go_roundw
      case rel => exact ⟨k + 1, m, by omega, rfl, by rw [HT.out, partsV_append]; exact hown1, below_own (below_alloc' hbl) (hown.alloc _) hg1 (Nat.le_trans hbs (by simp))⟩
      case measure => simp [intOf]
end Go.Proofs.YtkdaphkpllgmbaaGreat

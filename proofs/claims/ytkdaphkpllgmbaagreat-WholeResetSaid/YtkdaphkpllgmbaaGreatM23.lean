/-
  Contract of core.Begin.
-/
import Derived.Test.YtkdaphkpllgmbaaGreatM17
import Derived.Test.YtkdaphkpllgmbaaGreatM22
import Derived.Test.YtkdaphkpllgmbaaGreatM21
namespace Go.Proofs.YtkdaphkpllgmbaaGreat
open Go.RowKit Sp
set_option linter.unusedVariables false
set_option linter.unusedSimpArgs false
attribute [local go_sem] Sp.Enter.v Sp.Enter.cells
def beginC (k : Int) (r : Regs) : Core := { Core.new r with kind := k, page := 1, stack := 4 }
def beginL (k : Int) (r : Regs) : List Value := qL r (stepsV (List.replicate 24 step0)) 0 0 (restL (beginC k r) (.slice none 0 0))
theorem beginK (k : Int) (r : Regs) : ((((((((((((Tryz.zeroCells209.setIfInBounds 0 (.int .u8 (r.a.toNat : Int))).setIfInBounds 1 (.int .u8 (r.b.toNat : Int))).setIfInBounds 2 (.int .u8 (r.dp.toNat : Int))).setIfInBounds 3 (.int .u8 (r.cc.toNat : Int))).setIfInBounds 4 (.int .u16 (r.x.toNat : Int))).setIfInBounds 5 (.int .u16 (r.y.toNat : Int))).setIfInBounds 6 (.int .u16 (r.u.toNat : Int))).setIfInBounds 7 (.int .u16 (r.s.toNat : Int))).setIfInBounds 8 (.int .u16 (r.pc.toNat : Int))).setIfInBounds 59 (.int .i64 k)).setIfInBounds 60 (.int .i64 1)).setIfInBounds 71 (.int .i64 4)) = (beginL k r).toArray := by kernel_rfl
theorem core_size {p : Nat} {s : Core} {w : World} {ring : List Value} {a : Nat} {A : Option Addr} {c : Nat} (h : CoreIn p s w ring a A c) : (qL s.r ring a s.q.length (restL s (.slice A s.list.length c))).toArray.size = 77 := by
  have := h.ring.size
  simp [qL, restL, fileL, this]
theorem CoreAt.begun {p : Nat} {s : Core} {w : World} (h : CoreAt p s w) (k : Int) (r : Regs) : CoreAt p (beginC k r) (w.setRow p (beginL k r).toArray) := by
  obtain ⟨ring, a, A, c, h⟩ := h
  exact ⟨_, 0, none, 0, setRow_heap w p _ _ _ _ h.blk, RingOf.zero, ListOk.nil_ _ _, Nat.le_refl _⟩
theorem grown_row (w : World) {p : Nat} {w' : World} (h : w.grownBy w' (some p)) (cs : Array Value) : w.grownBy (w'.setRow p cs) (some p) :=
  grown_then h ⟨rfl, rfl, rfl, by simp [World.setRow], fun k hk hne => setRow_other w' p k _ (fun e => hne (by rw [e]))⟩
set_option maxRecDepth 100000 in
set_option maxHeartbeats 1000000 in
theorem begin_busy {p : Nat} {s : Core} (k : Int) (t : Step) (q : List Step) (w : World) (hC : CoreAt p s w) (hq : s.q = t :: q) :
    Calls Tryz.prog 71 #[.pointer (some ⟨p, 0, none⟩), .int .i64 k] w fun e w' => e = .returned (.bool false) ∧ CoreAt p (s) w' ∧ w.grownBy w' (some p) := by
  have hC0 := Lib.hid hC
  go_enter Tryz.func71, Tryz.ntmps71
  go_wp2_with fail
  refine (Active_t _ hC0.out).mono ?_
  rw [hq]
  rintro e w1 ⟨he, rfl⟩
  obtain rfl : e = .returned (.bool true) := he
  go_wp2
  go_ret
  exact ⟨rfl, hC0.out, World.grownBy.refl _ _⟩
set_option maxRecDepth 100000 in
set_option maxHeartbeats 1000000 in
theorem begin_bad {p : Nat} {s : Core} (k : Int) (w : World) (hC : CoreAt p s w) (hq : s.q = []) (hk : k ≠ 0) (hf : (frameOf k s.r.cc).2 = false) :
    Calls Tryz.prog 71 #[.pointer (some ⟨p, 0, none⟩), .int .i64 k] w fun e w' => e = .returned (.bool false) ∧ CoreAt p (s) w' ∧ w.grownBy w' (some p) := by
  have hC0 := Lib.hid hC
  have hlt := hC.lt
  obtain ⟨⟨en, ok⟩, hX⟩ : ∃ X, frameOf k s.r.cc = X := ⟨_, rfl⟩
  have HF := Lib.hid (fun W => frameOf_t k s.r.cc W)
  rw [hX] at HF
  obtain rfl : ok = false := by rw [hX] at hf; exact hf
  have bk : (k != 0) = true := bne_iff_ne.mpr hk
  clear hX hf hk
  obtain ⟨ring, qa, lA, lc, hI⟩ := id hC; have F := core_facts hI
  clear hI
  go_enter Tryz.func71, Tryz.ntmps71
  go_wp2_with fail
  refine (Active_t _ hC0.out).mono ?_
  rw [hq]
  rintro e w1 ⟨he, rfl⟩
  obtain rfl : e = .returned (.bool false) := he
  go_wp2_with fail
  refine (HF.out _).mono ?_
  rintro e wE ⟨rfl, hbE⟩
  have hCE := CoreAt.below hC0.out hbE
  have hC1 := Lib.hid (hCE.alloc (.cells #[.int .u8 (en.pushed.toNat : Int), .int .u8 (en.then_.toNat : Int), .int .u16 (en.vector.toNat : Int), .bool en.whole] 207))
  have hg1 := Lib.hid (grown_alloc w (grown_of_below hbE (some p)) (.cells #[.int .u8 (en.pushed.toNat : Int), .int .u8 (en.then_.toNat : Int), .int .u16 (en.vector.toNat : Int), .bool en.whole] 207))
  have hBE := Lib.hid (Blk.newAt wE 207 #[.int .u8 (en.pushed.toNat : Int), .int .u8 (en.then_.toNat : Int), .int .u16 (en.vector.toNat : Int), .bool en.whole] wE.heap.size rfl)
  have hltE := hCE.lt
  clear F hbE hCE
  go_wp2
  go_ret
  exact ⟨rfl, hC1.out, hg1.out⟩
set_option maxRecDepth 100000 in
set_option maxHeartbeats 1000000 in
theorem begin_inst {p : Nat} {s : Core} (w : World) (hC : CoreAt p s w) (hq : s.q = []) :
    Calls Tryz.prog 71 #[.pointer (some ⟨p, 0, none⟩), .int .i64 0] w fun e w' => e = .returned (.bool true) ∧ CoreAt p ((beginC 0 s.r).push [⟨1, false⟩]) w' ∧ w.grownBy w' (some p) := by
  have hC0 := Lib.hid hC
  have hlt := hC.lt
  obtain ⟨⟨en, ok⟩, hX⟩ : ∃ X, frameOf 0 s.r.cc = X := ⟨_, rfl⟩
  have HF := Lib.hid (fun W => frameOf_t 0 s.r.cc W)
  rw [hX] at HF
  clear hX
  obtain ⟨ring, qa, lA, lc, hI⟩ := id hC; have F := core_facts hI
  clear hI
  go_enter Tryz.func71, Tryz.ntmps71
  go_wp2_with fail
  refine (Active_t _ hC0.out).mono ?_
  rw [hq]
  rintro e w1 ⟨he, rfl⟩
  obtain rfl : e = .returned (.bool false) := he
  go_wp2_with fail
  refine (HF.out _).mono ?_
  rintro e wE ⟨rfl, hbE⟩
  have hCE := CoreAt.below hC0.out hbE
  have hC1 := Lib.hid (hCE.alloc (.cells #[.int .u8 (en.pushed.toNat : Int), .int .u8 (en.then_.toNat : Int), .int .u16 (en.vector.toNat : Int), .bool en.whole] 207))
  have hg1 := Lib.hid (grown_alloc w (grown_of_below hbE (some p)) (.cells #[.int .u8 (en.pushed.toNat : Int), .int .u8 (en.then_.toNat : Int), .int .u16 (en.vector.toNat : Int), .bool en.whole] 207))
  have hBE := Lib.hid (Blk.newAt wE 207 #[.int .u8 (en.pushed.toNat : Int), .int .u8 (en.then_.toNat : Int), .int .u16 (en.vector.toNat : Int), .bool en.whole] wE.heap.size rfl)
  have hltE := hCE.lt
  clear F hbE hCE
  obtain ⟨ring1, qa1, lA1, lc1, hI1⟩ := id hC1.out
  have F1 := core_facts hI1
  have hsz := core_size hI1
  have hblk := hI1.blk
  have hlt1 := hC1.out.lt
  go_wp2_with (refine wpList_store_row rfl 209 (.tmp 33) (.tmp 32) rfl p ((((((((((((Tryz.zeroCells209.setIfInBounds 0 (.int .u8 (s.r.a.toNat : Int))).setIfInBounds 1 (.int .u8 (s.r.b.toNat : Int))).setIfInBounds 2 (.int .u8 (s.r.dp.toNat : Int))).setIfInBounds 3 (.int .u8 (s.r.cc.toNat : Int))).setIfInBounds 4 (.int .u16 (s.r.x.toNat : Int))).setIfInBounds 5 (.int .u16 (s.r.y.toNat : Int))).setIfInBounds 6 (.int .u16 (s.r.u.toNat : Int))).setIfInBounds 7 (.int .u16 (s.r.s.toNat : Int))).setIfInBounds 8 (.int .u16 (s.r.pc.toNat : Int))).setIfInBounds 59 (.int .i64 0)).setIfInBounds 60 (.int .i64 1)).setIfInBounds 71 (.int .i64 4)) rfl rfl 209 _ hblk (by kernel_rfl) (hsz.trans (by kernel_rfl)) (by kernel_rfl) ?_)
  have hCB := hC1.out.begun 0 s.r
  rw [← beginK] at hCB
  have hgB := grown_row w hg1.out ((((((((((((Tryz.zeroCells209.setIfInBounds 0 (.int .u8 (s.r.a.toNat : Int))).setIfInBounds 1 (.int .u8 (s.r.b.toNat : Int))).setIfInBounds 2 (.int .u8 (s.r.dp.toNat : Int))).setIfInBounds 3 (.int .u8 (s.r.cc.toNat : Int))).setIfInBounds 4 (.int .u16 (s.r.x.toNat : Int))).setIfInBounds 5 (.int .u16 (s.r.y.toNat : Int))).setIfInBounds 6 (.int .u16 (s.r.u.toNat : Int))).setIfInBounds 7 (.int .u16 (s.r.s.toNat : Int))).setIfInBounds 8 (.int .u16 (s.r.pc.toNat : Int))).setIfInBounds 59 (.int .i64 0)).setIfInBounds 60 (.int .i64 1)).setIfInBounds 71 (.int .i64 4))
  have HSZ : ((wE.alloc (.cells #[.int .u8 (en.pushed.toNat : Int), .int .u8 (en.then_.toNat : Int), .int .u16 (en.vector.toNat : Int), .bool en.whole] 207)).setRow p ((((((((((((Tryz.zeroCells209.setIfInBounds 0 (.int .u8 (s.r.a.toNat : Int))).setIfInBounds 1 (.int .u8 (s.r.b.toNat : Int))).setIfInBounds 2 (.int .u8 (s.r.dp.toNat : Int))).setIfInBounds 3 (.int .u8 (s.r.cc.toNat : Int))).setIfInBounds 4 (.int .u16 (s.r.x.toNat : Int))).setIfInBounds 5 (.int .u16 (s.r.y.toNat : Int))).setIfInBounds 6 (.int .u16 (s.r.u.toNat : Int))).setIfInBounds 7 (.int .u16 (s.r.s.toNat : Int))).setIfInBounds 8 (.int .u16 (s.r.pc.toNat : Int))).setIfInBounds 59 (.int .i64 0)).setIfInBounds 60 (.int .i64 1)).setIfInBounds 71 (.int .i64 4))).heap.size = wE.heap.size + 1 := by simp [World.setRow]
  generalize ((wE.alloc (.cells #[.int .u8 (en.pushed.toNat : Int), .int .u8 (en.then_.toNat : Int), .int .u16 (en.vector.toNat : Int), .bool en.whole] 207)).setRow p ((((((((((((Tryz.zeroCells209.setIfInBounds 0 (.int .u8 (s.r.a.toNat : Int))).setIfInBounds 1 (.int .u8 (s.r.b.toNat : Int))).setIfInBounds 2 (.int .u8 (s.r.dp.toNat : Int))).setIfInBounds 3 (.int .u8 (s.r.cc.toNat : Int))).setIfInBounds 4 (.int .u16 (s.r.x.toNat : Int))).setIfInBounds 5 (.int .u16 (s.r.y.toNat : Int))).setIfInBounds 6 (.int .u16 (s.r.u.toNat : Int))).setIfInBounds 7 (.int .u16 (s.r.s.toNat : Int))).setIfInBounds 8 (.int .u16 (s.r.pc.toNat : Int))).setIfInBounds 59 (.int .i64 0)).setIfInBounds 60 (.int .i64 1)).setIfInBounds 71 (.int .i64 4))) = w2 at *
  have hC2 := Lib.hid (hCB.alloc (.cells #[.int .i64 1, .bool false] 202))
  have hg2 := Lib.hid (grown_alloc w hgB (.cells #[.int .i64 1, .bool false] 202))
  have hltB := hCB.lt
  have hB := Blk.newAt w2 202 #[.int .i64 1, .bool false] w2.heap.size rfl
  have hs2 : w2.heap.size = wE.heap.size + 1 := HSZ
  have hRd := Lib.hid (hB.reads_ 2 1 rfl)
  have hap : Hid (Apart p 1 (some ⟨w2.heap.size, 0, none⟩)) := Lib.hid (fun _ ad he => by injection he with he; subst he; show w2.heap.size ≠ p; omega)
  clear hCB hgB hB
  rw [hs2] at hRd hap
  refine (Push_core [⟨1, false⟩] _ _ _ hC2.out hRd.out hap.out (by decide)).mono ?_
  rintro e w9 ⟨rfl, hC9, hg9⟩
  go_wp2
  go_ret
  exact ⟨rfl, CoreAt.congr hC9 rfl, grown_then hg2.out hg9⟩
theorem row_24 (k : Int) : (rowOf k).length ≤ 24 := by
  unfold rowOf
  repeat' split
  all_goals decide
set_option maxRecDepth 100000 in
set_option maxHeartbeats 1000000 in
theorem begin_row {p : Nat} {s : Core} (k : Int) (w : World) (hC : CoreAt p s w) (hq : s.q = []) (hk : k ≠ 0) (hf : (frameOf k s.r.cc).2 = true) :
    Calls Tryz.prog 71 #[.pointer (some ⟨p, 0, none⟩), .int .i64 k] w fun e w' => e = .returned (.bool true) ∧ CoreAt p (((beginC k s.r).into (frameOf k s.r.cc).1 (decide (k ≤ 3))).push (rowOf k)) w' ∧ w.grownBy w' (some p) := by
  have hC0 := Lib.hid hC
  have hlt := hC.lt
  obtain ⟨⟨en, ok⟩, hX⟩ : ∃ X, frameOf k s.r.cc = X := ⟨_, rfl⟩
  have HF := Lib.hid (fun W => frameOf_t k s.r.cc W)
  rw [hX] at HF
  obtain rfl : ok = true := by rw [hX] at hf; exact hf
  have bk : (k != 0) = true := bne_iff_ne.mpr hk
  have bk0 : (k == 0) = false := beq_eq_false_iff_ne.mpr hk
  have HXX := Lib.hid hX
  clear hX hf hk
  obtain ⟨ring, qa, lA, lc, hI⟩ := id hC; have F := core_facts hI
  clear hI
  go_enter Tryz.func71, Tryz.ntmps71
  go_wp2_with fail
  refine (Active_t _ hC0.out).mono ?_
  rw [hq]
  rintro e w1 ⟨he, rfl⟩
  obtain rfl : e = .returned (.bool false) := he
  go_wp2_with fail
  refine (HF.out _).mono ?_
  rintro e wE ⟨rfl, hbE⟩
  have hCE := CoreAt.below hC0.out hbE
  have hC1 := Lib.hid (hCE.alloc (.cells #[.int .u8 (en.pushed.toNat : Int), .int .u8 (en.then_.toNat : Int), .int .u16 (en.vector.toNat : Int), .bool en.whole] 207))
  have hg1 := Lib.hid (grown_alloc w (grown_of_below hbE (some p)) (.cells #[.int .u8 (en.pushed.toNat : Int), .int .u8 (en.then_.toNat : Int), .int .u16 (en.vector.toNat : Int), .bool en.whole] 207))
  have hBE := Lib.hid (Blk.newAt wE 207 #[.int .u8 (en.pushed.toNat : Int), .int .u8 (en.then_.toNat : Int), .int .u16 (en.vector.toNat : Int), .bool en.whole] wE.heap.size rfl)
  have hltE := hCE.lt
  clear F hbE hCE
  have hne : wE.heap.size ≠ p := by omega
  have hB2 : Blk ((wE.alloc (.cells #[.int .u8 (en.pushed.toNat : Int), .int .u8 (en.then_.toNat : Int), .int .u16 (en.vector.toNat : Int), .bool en.whole] 207)).setRow p ((((((((((((Tryz.zeroCells209.setIfInBounds 0 (.int .u8 (s.r.a.toNat : Int))).setIfInBounds 1 (.int .u8 (s.r.b.toNat : Int))).setIfInBounds 2 (.int .u8 (s.r.dp.toNat : Int))).setIfInBounds 3 (.int .u8 (s.r.cc.toNat : Int))).setIfInBounds 4 (.int .u16 (s.r.x.toNat : Int))).setIfInBounds 5 (.int .u16 (s.r.y.toNat : Int))).setIfInBounds 6 (.int .u16 (s.r.u.toNat : Int))).setIfInBounds 7 (.int .u16 (s.r.s.toNat : Int))).setIfInBounds 8 (.int .u16 (s.r.pc.toNat : Int))).setIfInBounds 59 (.int .i64 k)).setIfInBounds 60 (.int .i64 1)).setIfInBounds 71 (.int .i64 4))) wE.heap.size 207 _ := (setRow_other _ p wE.heap.size _ hne).trans hBE.out
  have e0 := hB2.cell 0
  have e1 := hB2.cell 1
  have e2 := hB2.cell 2
  have e3 := hB2.cell 3
  simp only [List.getElem?_toArray, List.getElem?_cons_zero, List.getElem?_cons_succ] at e0 e1 e2 e3
  have hCB := hC1.out.begun k s.r
  rw [← beginK] at hCB
  have hgB := Lib.hid (grown_row w hg1.out ((((((((((((Tryz.zeroCells209.setIfInBounds 0 (.int .u8 (s.r.a.toNat : Int))).setIfInBounds 1 (.int .u8 (s.r.b.toNat : Int))).setIfInBounds 2 (.int .u8 (s.r.dp.toNat : Int))).setIfInBounds 3 (.int .u8 (s.r.cc.toNat : Int))).setIfInBounds 4 (.int .u16 (s.r.x.toNat : Int))).setIfInBounds 5 (.int .u16 (s.r.y.toNat : Int))).setIfInBounds 6 (.int .u16 (s.r.u.toNat : Int))).setIfInBounds 7 (.int .u16 (s.r.s.toNat : Int))).setIfInBounds 8 (.int .u16 (s.r.pc.toNat : Int))).setIfInBounds 59 (.int .i64 k)).setIfInBounds 60 (.int .i64 1)).setIfInBounds 71 (.int .i64 4)))
  have hCBh := Lib.hid hCB
  clear hB2 hCB
  obtain ⟨ring1, qa1, lA1, lc1, hI1⟩ := id hC1.out
  have F1 := core_facts hI1
  have hsz := core_size hI1
  have hblk := hI1.blk
  have hlt1 := hC1.out.lt
  go_wp2_with (refine wpList_store_row rfl 209 (.tmp 33) (.tmp 32) rfl p ((((((((((((Tryz.zeroCells209.setIfInBounds 0 (.int .u8 (s.r.a.toNat : Int))).setIfInBounds 1 (.int .u8 (s.r.b.toNat : Int))).setIfInBounds 2 (.int .u8 (s.r.dp.toNat : Int))).setIfInBounds 3 (.int .u8 (s.r.cc.toNat : Int))).setIfInBounds 4 (.int .u16 (s.r.x.toNat : Int))).setIfInBounds 5 (.int .u16 (s.r.y.toNat : Int))).setIfInBounds 6 (.int .u16 (s.r.u.toNat : Int))).setIfInBounds 7 (.int .u16 (s.r.s.toNat : Int))).setIfInBounds 8 (.int .u16 (s.r.pc.toNat : Int))).setIfInBounds 59 (.int .i64 k)).setIfInBounds 60 (.int .i64 1)).setIfInBounds 71 (.int .i64 4)) rfl rfl 209 _ hblk (by kernel_rfl) (hsz.trans (by kernel_rfl)) (by kernel_rfl) ?_)
  refine (into_t en (decide (k ≤ 3)) _ hCBh.out).mono ?_
  rintro e w3 ⟨rfl, hC3, hg3⟩
  have hC3h := Lib.hid hC3
  have hg4 := Lib.hid (grown_then hgB.out hg3)
  have hlt3 := hC3.lt
  clear F1 hI1 hblk e0 e1 e2 e3 hsz hC3 hg3
  go_wp2
  go_region_held3 (fun _ => True) (first | trivial | (go_keep; done)) (first | (go_at_call 114; refine (rowOf_t k _).mono ?_; rintro e w8 ho; obtain ⟨A8, c8, rfl, hown8, hb8⟩ := ho.open_; clear ho; obtain ⟨A8', c8', hAc8, hr8, _, _⟩ := own_reads hown8; injection hAc8 with hA81 _ hA83; subst hA81 hA83; have hap8 := own_apart hown8 ((hC3h.out.drew).lt); have hC8 := CoreAt.below (hC3h.out.drew) hb8) | (go_at_call 112; refine (Push_core (rowOf k) _ _ _ hC8 hr8 hap8 (row_short _)).mono ?_; rintro e w9 ⟨rfl, hC9, hg9⟩))
  have hgf := Lib.hid (grown_then (grown_then (grown_drew w hg4.out) (grown_of_below hb8 (some p))) hg9)
  have hC9h := Lib.hid hC9
  clear hC9 hg9 hC8 hr8 hap8 hown8 hb8
  go_wp2
  go_ret
  refine ⟨?_, ?_, hgf.out⟩
  · have h24 := row_24 k
    have hq0 : ((beginC k s.r).into en (decide (k ≤ 3))).q = [] := by unfold Core.into; split <;> rfl
    show Ending.returned (.bool (decide _)) = _
    rw [hq0, decide_eq_true (by simpa using h24)]
  · rw [HXX.out]; exact CoreAt.congr hC9h.out rfl
set_option maxRecDepth 100000 in
set_option maxHeartbeats 1000000 in
theorem begin_t {p : Nat} {s : Core} (k : Int) (w : World) (hC : CoreAt p s w) :
    Calls Tryz.prog 71 #[.pointer (some ⟨p, 0, none⟩), .int .i64 k] w fun e w' => e = .returned (.bool (s.begin_ k).2) ∧ CoreAt p (s.begin_ k).1 w' ∧ w.grownBy w' (some p) := by
  cases hq : s.q with
  | cons t q =>
    rw [show s.begin_ k = (s, false) from by unfold Core.begin_; rw [if_pos (by rw [hq]; simp)]]
    exact begin_busy k t q w hC hq
  | nil =>
    by_cases h0 : k = 0
    · subst h0
      rw [show s.begin_ 0 = ((beginC 0 s.r).push [⟨1, false⟩], true) from by unfold Core.begin_; rw [if_neg (by rw [hq]; simp), if_neg (by simp)]; rfl]
      exact begin_inst w hC hq
    · cases hf : (frameOf k s.r.cc).2
      · rw [show s.begin_ k = (s, false) from by unfold Core.begin_; rw [if_neg (by rw [hq]; simp), if_pos ⟨h0, hf⟩]]
        exact begin_bad k w hC hq h0 hf
      · rw [show s.begin_ k = (((beginC k s.r).into (frameOf k s.r.cc).1 (decide (k ≤ 3))).push (rowOf k), true) from by unfold Core.begin_; rw [if_neg (by rw [hq]; simp), if_neg (by rw [hf]; simp), if_neg h0]; rfl]
        exact begin_row k w hC hq h0 hf
end Go.Proofs.YtkdaphkpllgmbaaGreat

/-
  Contract of core.Want.
-/
import Derived.Test.YtkdaphkpllgmbaaGreatM12
import Derived.Test.YtkdaphkpllgmbaaGreatM13
import Derived.StillTailTactics
namespace Go.Proofs.YtkdaphkpllgmbaaGreat
open Go.RowKit Sp
set_option linter.unusedVariables false
set_option linter.unusedSimpArgs false
def Sp.Bus.cells (b : Bus) : Array Value := #[.int .u16 (b.addr.toNat : Int), .int .u8 (b.data.toNat : Int), .bool b.read, .bool b.bs, .bool b.busy]
def Sp.Bus.v (b : Bus) : Value := .agg b.cells
attribute [local go_sem] Sp.Bus.v Sp.Bus.cells
theorem LBlk.set5 {w : World} {g : Nat} {t : TypeId} {x0 x1 x2 x3 x4 : Value} (B : LBlk w g t [x0, x1, x2, x3, x4]) (a b c d e : Value) : LBlk (((((w.setCell ⟨g, 0, none⟩ a).setCell ⟨g, 1, none⟩ b).setCell ⟨g, 2, none⟩ c).setCell ⟨g, 3, none⟩ d).setCell ⟨g, 4, none⟩ e) g t [a, b, c, d, e] := ((((B.set_ 0 a).set_ 1 b).set_ 2 c).set_ 3 d).set_ 4 e
theorem grown_new5 (w : World) {r : Option Nat} {w' : World} (h : w.grownBy w' r) (g : Nat) (hg : w.heap.size ≤ g) (a b c d e : Value) : w.grownBy (((((w'.setCell ⟨g, 0, none⟩ a).setCell ⟨g, 1, none⟩ b).setCell ⟨g, 2, none⟩ c).setCell ⟨g, 3, none⟩ d).setCell ⟨g, 4, none⟩ e) r :=
  grown_new w (grown_new w (grown_new w (grown_new w (grown_new w h g hg 0 a) g hg 1 b) g hg 2 c) g hg 3 d) g hg 4 e
theorem CoreAt.grown0 {p : Nat} {s : Core} {w w' : World} (h : CoreAt p s w) (hg : w.grownBy w' none) : CoreAt p s w' := by
  obtain ⟨ring, a, A, c, h⟩ := h
  exact ⟨ring, a, A, c, h.blk.grown hg (by simp), h.ring, h.list.keep (fun g cs hb => hb.grown hg (by simp)), h.cap⟩
set_option maxRecDepth 100000 in
set_option maxHeartbeats 4000000 in
theorem want_nil {p : Nat} {s : Core}  (w : World) (hC : CoreAt p s w) (hq : s.q = []) :
    Calls Tryz.prog 72 #[.pointer (some ⟨p, 0, none⟩)] w fun e w' => e = .returned (.tuple #[(⟨0, 0, false, false, false⟩ : Bus).v, .bool false]) ∧ w.grownBy w' none := by
  have hlt := hC.lt
  have hC1 := Lib.hid (hC.alloc (.cells #[.int .u16 0, .int .u8 0, .bool false, .bool false, .bool false] 140))
  have hA : LBlk (w.alloc (.cells #[.int .u16 0, .int .u8 0, .bool false, .bool false, .bool false] 140)) w.heap.size 140 [.int .u16 0, .int .u8 0, .bool false, .bool false, .bool false] := Blk.newAt w 140 _ w.heap.size rfl
  go_enter Tryz.func72, Tryz.ntmps72
  go_wp2_with fail
  refine (Peek_core _ hC1.out).mono ?_
  rw [hq]
  rintro e w1 ⟨he, hb1⟩
  obtain rfl : e = .returned (.tuple #[.agg #[.int .i64 0, .bool false], .bool false]) := he
  have hA1 := hA.below hb1 hA.lt
  have hC2 := Lib.hid (CoreAt.below hC1.out hb1)
  have hg1 := Lib.hid (grown_then (grown_alloc w (World.grownBy.refl w none) (.cells #[.int .u16 0, .int .u8 0, .bool false, .bool false, .bool false] 140)) (grown_of_below hb1 none))
  have hA1h := Lib.hid hA1
  have a0 := LBlk.cell hA1 0
  have a1 := LBlk.cell hA1 1
  have a2 := LBlk.cell hA1 2
  have a3 := LBlk.cell hA1 3
  have a4 := LBlk.cell hA1 4
  simp only [List.getElem?_cons_zero, List.getElem?_cons_succ] at a0 a1 a2 a3 a4
  have f0 := LBlk.frozen hA1 0
  have f1 := LBlk.frozen hA1 1
  have f2 := LBlk.frozen hA1 2
  have f3 := LBlk.frozen hA1 3
  have f4 := LBlk.frozen hA1 4
  have hla1 := LBlk.lt hA1
  obtain ⟨ring2, qa2, lA2, lc2, hI2⟩ := id hC2.out; have F2 := core_facts hI2
  have hlt2 := hC2.out.lt
  clear hI2 hA1 hA hb1 hq hC
  go_wp2
  refine bodyPost_ret (v := .tuple #[(⟨0, 0, false, false, false⟩ : Bus).v, .bool false]) ?_ rfl ⟨rfl, grown_alloc w (grown_new5 w hg1.out w.heap.size (Nat.le_refl _) _ _ _ _ _) _⟩
  exact (results_cell_tmp2 (p := 2) (q := 3) (ty := 140) rfl _ _ w.heap.size 140 (⟨0, 0, false, false, false⟩ : Bus).cells (0, 0) _ rfl (LBlk.alloc (LBlk.set5 hA1h.out _ _ _ _ _) _) Tryz.underlying140 rfl (by kernel_rfl)).trans rfl
set_option maxRecDepth 100000 in
set_option maxHeartbeats 4000000 in
theorem want_1 {p : Nat} {s : Core} (z : Bool) (q : List Step) (w : World) (hC : CoreAt p s w) (hq : s.q = ⟨1, z⟩ :: q) :
    Calls Tryz.prog 72 #[.pointer (some ⟨p, 0, none⟩)] w fun e w' => e = .returned (.tuple #[(⟨s.r.pc, 0, true, false, z⟩ : Bus).v, .bool true]) ∧ w.grownBy w' none := by
  have hlt := hC.lt
  have hC1 := Lib.hid (hC.alloc (.cells #[.int .u16 0, .int .u8 0, .bool false, .bool false, .bool false] 140))
  have hA : LBlk (w.alloc (.cells #[.int .u16 0, .int .u8 0, .bool false, .bool false, .bool false] 140)) w.heap.size 140 [.int .u16 0, .int .u8 0, .bool false, .bool false, .bool false] := Blk.newAt w 140 _ w.heap.size rfl
  go_enter Tryz.func72, Tryz.ntmps72
  go_wp2_with fail
  refine (Peek_core _ hC1.out).mono ?_
  rw [hq]
  rintro e w1 ⟨he, hb1⟩
  obtain rfl : e = .returned (.tuple #[.agg #[.int .i64 1, .bool z], .bool true]) := he
  have hA1 := hA.below hb1 hA.lt
  have hC2 := Lib.hid (CoreAt.below hC1.out hb1)
  have hg1 := Lib.hid (grown_then (grown_alloc w (World.grownBy.refl w none) (.cells #[.int .u16 0, .int .u8 0, .bool false, .bool false, .bool false] 140)) (grown_of_below hb1 none))
  have hA1h := Lib.hid hA1
  have a0 := LBlk.cell hA1 0
  have a1 := LBlk.cell hA1 1
  have a2 := LBlk.cell hA1 2
  have a3 := LBlk.cell hA1 3
  have a4 := LBlk.cell hA1 4
  simp only [List.getElem?_cons_zero, List.getElem?_cons_succ] at a0 a1 a2 a3 a4
  have f0 := LBlk.frozen hA1 0
  have f1 := LBlk.frozen hA1 1
  have f2 := LBlk.frozen hA1 2
  have f3 := LBlk.frozen hA1 3
  have f4 := LBlk.frozen hA1 4
  have hla1 := LBlk.lt hA1
  obtain ⟨ring2, qa2, lA2, lc2, hI2⟩ := id hC2.out; have F2 := core_facts hI2
  have hlt2 := hC2.out.lt
  clear hI2 hA1 hA hb1 hq hC
  go_wp2
  refine bodyPost_ret (v := .tuple #[(⟨s.r.pc, 0, true, false, z⟩ : Bus).v, .bool true]) ?_ rfl ⟨rfl, grown_alloc w (grown_alloc w (grown_new5 w hg1.out w.heap.size (Nat.le_refl _) _ _ _ _ _) _) _⟩
  exact (results_cell_tmp2 (p := 2) (q := 3) (ty := 140) rfl _ _ w.heap.size 140 (⟨s.r.pc, 0, true, false, z⟩ : Bus).cells (0, 0) _ rfl (LBlk.alloc (LBlk.alloc (LBlk.set5 hA1h.out _ _ _ _ _) _) _) Tryz.underlying140 rfl (by kernel_rfl)).trans rfl
set_option maxRecDepth 100000 in
set_option maxHeartbeats 4000000 in
theorem want_2 {p : Nat} {s : Core} (z : Bool) (q : List Step) (w : World) (hC : CoreAt p s w) (hq : s.q = ⟨2, z⟩ :: q) :
    Calls Tryz.prog 72 #[.pointer (some ⟨p, 0, none⟩)] w fun e w' => e = .returned (.tuple #[(⟨s.r.pc, 0, true, false, z⟩ : Bus).v, .bool true]) ∧ w.grownBy w' none := by
  have hlt := hC.lt
  have hC1 := Lib.hid (hC.alloc (.cells #[.int .u16 0, .int .u8 0, .bool false, .bool false, .bool false] 140))
  have hA : LBlk (w.alloc (.cells #[.int .u16 0, .int .u8 0, .bool false, .bool false, .bool false] 140)) w.heap.size 140 [.int .u16 0, .int .u8 0, .bool false, .bool false, .bool false] := Blk.newAt w 140 _ w.heap.size rfl
  go_enter Tryz.func72, Tryz.ntmps72
  go_wp2_with fail
  refine (Peek_core _ hC1.out).mono ?_
  rw [hq]
  rintro e w1 ⟨he, hb1⟩
  obtain rfl : e = .returned (.tuple #[.agg #[.int .i64 2, .bool z], .bool true]) := he
  have hA1 := hA.below hb1 hA.lt
  have hC2 := Lib.hid (CoreAt.below hC1.out hb1)
  have hg1 := Lib.hid (grown_then (grown_alloc w (World.grownBy.refl w none) (.cells #[.int .u16 0, .int .u8 0, .bool false, .bool false, .bool false] 140)) (grown_of_below hb1 none))
  have hA1h := Lib.hid hA1
  have a0 := LBlk.cell hA1 0
  have a1 := LBlk.cell hA1 1
  have a2 := LBlk.cell hA1 2
  have a3 := LBlk.cell hA1 3
  have a4 := LBlk.cell hA1 4
  simp only [List.getElem?_cons_zero, List.getElem?_cons_succ] at a0 a1 a2 a3 a4
  have f0 := LBlk.frozen hA1 0
  have f1 := LBlk.frozen hA1 1
  have f2 := LBlk.frozen hA1 2
  have f3 := LBlk.frozen hA1 3
  have f4 := LBlk.frozen hA1 4
  have hla1 := LBlk.lt hA1
  obtain ⟨ring2, qa2, lA2, lc2, hI2⟩ := id hC2.out; have F2 := core_facts hI2
  have hlt2 := hC2.out.lt
  clear hI2 hA1 hA hb1 hq hC
  go_wp2
  refine bodyPost_ret (v := .tuple #[(⟨s.r.pc, 0, true, false, z⟩ : Bus).v, .bool true]) ?_ rfl ⟨rfl, grown_alloc w (grown_alloc w (grown_new5 w hg1.out w.heap.size (Nat.le_refl _) _ _ _ _ _) _) _⟩
  exact (results_cell_tmp2 (p := 2) (q := 3) (ty := 140) rfl _ _ w.heap.size 140 (⟨s.r.pc, 0, true, false, z⟩ : Bus).cells (0, 0) _ rfl (LBlk.alloc (LBlk.alloc (LBlk.set5 hA1h.out _ _ _ _ _) _) _) Tryz.underlying140 rfl (by kernel_rfl)).trans rfl
set_option maxRecDepth 100000 in
set_option maxHeartbeats 4000000 in
theorem want_3 {p : Nat} {s : Core} (z : Bool) (q : List Step) (w : World) (hC : CoreAt p s w) (hq : s.q = ⟨3, z⟩ :: q) :
    Calls Tryz.prog 72 #[.pointer (some ⟨p, 0, none⟩)] w fun e w' => e = .returned (.tuple #[(⟨s.r.pc, 0, true, false, z⟩ : Bus).v, .bool true]) ∧ w.grownBy w' none := by
  have hlt := hC.lt
  have hC1 := Lib.hid (hC.alloc (.cells #[.int .u16 0, .int .u8 0, .bool false, .bool false, .bool false] 140))
  have hA : LBlk (w.alloc (.cells #[.int .u16 0, .int .u8 0, .bool false, .bool false, .bool false] 140)) w.heap.size 140 [.int .u16 0, .int .u8 0, .bool false, .bool false, .bool false] := Blk.newAt w 140 _ w.heap.size rfl
  go_enter Tryz.func72, Tryz.ntmps72
  go_wp2_with fail
  refine (Peek_core _ hC1.out).mono ?_
  rw [hq]
  rintro e w1 ⟨he, hb1⟩
  obtain rfl : e = .returned (.tuple #[.agg #[.int .i64 3, .bool z], .bool true]) := he
  have hA1 := hA.below hb1 hA.lt
  have hC2 := Lib.hid (CoreAt.below hC1.out hb1)
  have hg1 := Lib.hid (grown_then (grown_alloc w (World.grownBy.refl w none) (.cells #[.int .u16 0, .int .u8 0, .bool false, .bool false, .bool false] 140)) (grown_of_below hb1 none))
  have hA1h := Lib.hid hA1
  have a0 := LBlk.cell hA1 0
  have a1 := LBlk.cell hA1 1
  have a2 := LBlk.cell hA1 2
  have a3 := LBlk.cell hA1 3
  have a4 := LBlk.cell hA1 4
  simp only [List.getElem?_cons_zero, List.getElem?_cons_succ] at a0 a1 a2 a3 a4
  have f0 := LBlk.frozen hA1 0
  have f1 := LBlk.frozen hA1 1
  have f2 := LBlk.frozen hA1 2
  have f3 := LBlk.frozen hA1 3
  have f4 := LBlk.frozen hA1 4
  have hla1 := LBlk.lt hA1
  obtain ⟨ring2, qa2, lA2, lc2, hI2⟩ := id hC2.out; have F2 := core_facts hI2
  have hlt2 := hC2.out.lt
  clear hI2 hA1 hA hb1 hq hC
  go_wp2
  refine bodyPost_ret (v := .tuple #[(⟨s.r.pc, 0, true, false, z⟩ : Bus).v, .bool true]) ?_ rfl ⟨rfl, grown_alloc w (grown_alloc w (grown_new5 w hg1.out w.heap.size (Nat.le_refl _) _ _ _ _ _) _) _⟩
  exact (results_cell_tmp2 (p := 2) (q := 3) (ty := 140) rfl _ _ w.heap.size 140 (⟨s.r.pc, 0, true, false, z⟩ : Bus).cells (0, 0) _ rfl (LBlk.alloc (LBlk.alloc (LBlk.set5 hA1h.out _ _ _ _ _) _) _) Tryz.underlying140 rfl (by kernel_rfl)).trans rfl
set_option maxRecDepth 100000 in
set_option maxHeartbeats 4000000 in
theorem want_5 {p : Nat} {s : Core} (z : Bool) (q : List Step) (w : World) (hC : CoreAt p s w) (hq : s.q = ⟨5, z⟩ :: q) :
    Calls Tryz.prog 72 #[.pointer (some ⟨p, 0, none⟩)] w fun e w' => e = .returned (.tuple #[(⟨s.ea, 0, true, false, z⟩ : Bus).v, .bool true]) ∧ w.grownBy w' none := by
  have hlt := hC.lt
  have hC1 := Lib.hid (hC.alloc (.cells #[.int .u16 0, .int .u8 0, .bool false, .bool false, .bool false] 140))
  have hA : LBlk (w.alloc (.cells #[.int .u16 0, .int .u8 0, .bool false, .bool false, .bool false] 140)) w.heap.size 140 [.int .u16 0, .int .u8 0, .bool false, .bool false, .bool false] := Blk.newAt w 140 _ w.heap.size rfl
  go_enter Tryz.func72, Tryz.ntmps72
  go_wp2_with fail
  refine (Peek_core _ hC1.out).mono ?_
  rw [hq]
  rintro e w1 ⟨he, hb1⟩
  obtain rfl : e = .returned (.tuple #[.agg #[.int .i64 5, .bool z], .bool true]) := he
  have hA1 := hA.below hb1 hA.lt
  have hC2 := Lib.hid (CoreAt.below hC1.out hb1)
  have hg1 := Lib.hid (grown_then (grown_alloc w (World.grownBy.refl w none) (.cells #[.int .u16 0, .int .u8 0, .bool false, .bool false, .bool false] 140)) (grown_of_below hb1 none))
  have hA1h := Lib.hid hA1
  have a0 := LBlk.cell hA1 0
  have a1 := LBlk.cell hA1 1
  have a2 := LBlk.cell hA1 2
  have a3 := LBlk.cell hA1 3
  have a4 := LBlk.cell hA1 4
  simp only [List.getElem?_cons_zero, List.getElem?_cons_succ] at a0 a1 a2 a3 a4
  have f0 := LBlk.frozen hA1 0
  have f1 := LBlk.frozen hA1 1
  have f2 := LBlk.frozen hA1 2
  have f3 := LBlk.frozen hA1 3
  have f4 := LBlk.frozen hA1 4
  have hla1 := LBlk.lt hA1
  obtain ⟨ring2, qa2, lA2, lc2, hI2⟩ := id hC2.out; have F2 := core_facts hI2
  have hlt2 := hC2.out.lt
  clear hI2 hA1 hA hb1 hq hC
  go_wp2
  refine bodyPost_ret (v := .tuple #[(⟨s.ea, 0, true, false, z⟩ : Bus).v, .bool true]) ?_ rfl ⟨rfl, grown_alloc w (grown_alloc w (grown_new5 w hg1.out w.heap.size (Nat.le_refl _) _ _ _ _ _) _) _⟩
  exact (results_cell_tmp2 (p := 2) (q := 3) (ty := 140) rfl _ _ w.heap.size 140 (⟨s.ea, 0, true, false, z⟩ : Bus).cells (0, 0) _ rfl (LBlk.alloc (LBlk.alloc (LBlk.set5 hA1h.out _ _ _ _ _) _) _) Tryz.underlying140 rfl (by kernel_rfl)).trans rfl
set_option maxRecDepth 100000 in
set_option maxHeartbeats 4000000 in
theorem want_7 {p : Nat} {s : Core} (z : Bool) (q : List Step) (w : World) (hC : CoreAt p s w) (hq : s.q = ⟨7, z⟩ :: q) :
    Calls Tryz.prog 72 #[.pointer (some ⟨p, 0, none⟩)] w fun e w' => e = .returned (.tuple #[(⟨s.ea, 0, true, false, z⟩ : Bus).v, .bool true]) ∧ w.grownBy w' none := by
  have hlt := hC.lt
  have hC1 := Lib.hid (hC.alloc (.cells #[.int .u16 0, .int .u8 0, .bool false, .bool false, .bool false] 140))
  have hA : LBlk (w.alloc (.cells #[.int .u16 0, .int .u8 0, .bool false, .bool false, .bool false] 140)) w.heap.size 140 [.int .u16 0, .int .u8 0, .bool false, .bool false, .bool false] := Blk.newAt w 140 _ w.heap.size rfl
  go_enter Tryz.func72, Tryz.ntmps72
  go_wp2_with fail
  refine (Peek_core _ hC1.out).mono ?_
  rw [hq]
  rintro e w1 ⟨he, hb1⟩
  obtain rfl : e = .returned (.tuple #[.agg #[.int .i64 7, .bool z], .bool true]) := he
  have hA1 := hA.below hb1 hA.lt
  have hC2 := Lib.hid (CoreAt.below hC1.out hb1)
  have hg1 := Lib.hid (grown_then (grown_alloc w (World.grownBy.refl w none) (.cells #[.int .u16 0, .int .u8 0, .bool false, .bool false, .bool false] 140)) (grown_of_below hb1 none))
  have hA1h := Lib.hid hA1
  have a0 := LBlk.cell hA1 0
  have a1 := LBlk.cell hA1 1
  have a2 := LBlk.cell hA1 2
  have a3 := LBlk.cell hA1 3
  have a4 := LBlk.cell hA1 4
  simp only [List.getElem?_cons_zero, List.getElem?_cons_succ] at a0 a1 a2 a3 a4
  have f0 := LBlk.frozen hA1 0
  have f1 := LBlk.frozen hA1 1
  have f2 := LBlk.frozen hA1 2
  have f3 := LBlk.frozen hA1 3
  have f4 := LBlk.frozen hA1 4
  have hla1 := LBlk.lt hA1
  obtain ⟨ring2, qa2, lA2, lc2, hI2⟩ := id hC2.out; have F2 := core_facts hI2
  have hlt2 := hC2.out.lt
  clear hI2 hA1 hA hb1 hq hC
  go_wp2
  refine bodyPost_ret (v := .tuple #[(⟨s.ea, 0, true, false, z⟩ : Bus).v, .bool true]) ?_ rfl ⟨rfl, grown_alloc w (grown_alloc w (grown_new5 w hg1.out w.heap.size (Nat.le_refl _) _ _ _ _ _) _) _⟩
  exact (results_cell_tmp2 (p := 2) (q := 3) (ty := 140) rfl _ _ w.heap.size 140 (⟨s.ea, 0, true, false, z⟩ : Bus).cells (0, 0) _ rfl (LBlk.alloc (LBlk.alloc (LBlk.set5 hA1h.out _ _ _ _ _) _) _) Tryz.underlying140 rfl (by kernel_rfl)).trans rfl
set_option maxRecDepth 100000 in
set_option maxHeartbeats 4000000 in
theorem want_11 {p : Nat} {s : Core} (z : Bool) (q : List Step) (w : World) (hC : CoreAt p s w) (hq : s.q = ⟨11, z⟩ :: q) :
    Calls Tryz.prog 72 #[.pointer (some ⟨p, 0, none⟩)] w fun e w' => e = .returned (.tuple #[(⟨s.ea, 0, true, false, z⟩ : Bus).v, .bool true]) ∧ w.grownBy w' none := by
  have hlt := hC.lt
  have hC1 := Lib.hid (hC.alloc (.cells #[.int .u16 0, .int .u8 0, .bool false, .bool false, .bool false] 140))
  have hA : LBlk (w.alloc (.cells #[.int .u16 0, .int .u8 0, .bool false, .bool false, .bool false] 140)) w.heap.size 140 [.int .u16 0, .int .u8 0, .bool false, .bool false, .bool false] := Blk.newAt w 140 _ w.heap.size rfl
  go_enter Tryz.func72, Tryz.ntmps72
  go_wp2_with fail
  refine (Peek_core _ hC1.out).mono ?_
  rw [hq]
  rintro e w1 ⟨he, hb1⟩
  obtain rfl : e = .returned (.tuple #[.agg #[.int .i64 11, .bool z], .bool true]) := he
  have hA1 := hA.below hb1 hA.lt
  have hC2 := Lib.hid (CoreAt.below hC1.out hb1)
  have hg1 := Lib.hid (grown_then (grown_alloc w (World.grownBy.refl w none) (.cells #[.int .u16 0, .int .u8 0, .bool false, .bool false, .bool false] 140)) (grown_of_below hb1 none))
  have hA1h := Lib.hid hA1
  have a0 := LBlk.cell hA1 0
  have a1 := LBlk.cell hA1 1
  have a2 := LBlk.cell hA1 2
  have a3 := LBlk.cell hA1 3
  have a4 := LBlk.cell hA1 4
  simp only [List.getElem?_cons_zero, List.getElem?_cons_succ] at a0 a1 a2 a3 a4
  have f0 := LBlk.frozen hA1 0
  have f1 := LBlk.frozen hA1 1
  have f2 := LBlk.frozen hA1 2
  have f3 := LBlk.frozen hA1 3
  have f4 := LBlk.frozen hA1 4
  have hla1 := LBlk.lt hA1
  obtain ⟨ring2, qa2, lA2, lc2, hI2⟩ := id hC2.out; have F2 := core_facts hI2
  have hlt2 := hC2.out.lt
  clear hI2 hA1 hA hb1 hq hC
  go_wp2
  refine bodyPost_ret (v := .tuple #[(⟨s.ea, 0, true, false, z⟩ : Bus).v, .bool true]) ?_ rfl ⟨rfl, grown_alloc w (grown_alloc w (grown_new5 w hg1.out w.heap.size (Nat.le_refl _) _ _ _ _ _) _) _⟩
  exact (results_cell_tmp2 (p := 2) (q := 3) (ty := 140) rfl _ _ w.heap.size 140 (⟨s.ea, 0, true, false, z⟩ : Bus).cells (0, 0) _ rfl (LBlk.alloc (LBlk.alloc (LBlk.set5 hA1h.out _ _ _ _ _) _) _) Tryz.underlying140 rfl (by kernel_rfl)).trans rfl
set_option maxRecDepth 100000 in
set_option maxHeartbeats 4000000 in
theorem want_12 {p : Nat} {s : Core} (z : Bool) (q : List Step) (w : World) (hC : CoreAt p s w) (hq : s.q = ⟨12, z⟩ :: q) :
    Calls Tryz.prog 72 #[.pointer (some ⟨p, 0, none⟩)] w fun e w' => e = .returned (.tuple #[(⟨s.ea, 0, true, true, z⟩ : Bus).v, .bool true]) ∧ w.grownBy w' none := by
  have hlt := hC.lt
  have hC1 := Lib.hid (hC.alloc (.cells #[.int .u16 0, .int .u8 0, .bool false, .bool false, .bool false] 140))
  have hA : LBlk (w.alloc (.cells #[.int .u16 0, .int .u8 0, .bool false, .bool false, .bool false] 140)) w.heap.size 140 [.int .u16 0, .int .u8 0, .bool false, .bool false, .bool false] := Blk.newAt w 140 _ w.heap.size rfl
  go_enter Tryz.func72, Tryz.ntmps72
  go_wp2_with fail
  refine (Peek_core _ hC1.out).mono ?_
  rw [hq]
  rintro e w1 ⟨he, hb1⟩
  obtain rfl : e = .returned (.tuple #[.agg #[.int .i64 12, .bool z], .bool true]) := he
  have hA1 := hA.below hb1 hA.lt
  have hC2 := Lib.hid (CoreAt.below hC1.out hb1)
  have hg1 := Lib.hid (grown_then (grown_alloc w (World.grownBy.refl w none) (.cells #[.int .u16 0, .int .u8 0, .bool false, .bool false, .bool false] 140)) (grown_of_below hb1 none))
  have hA1h := Lib.hid hA1
  have a0 := LBlk.cell hA1 0
  have a1 := LBlk.cell hA1 1
  have a2 := LBlk.cell hA1 2
  have a3 := LBlk.cell hA1 3
  have a4 := LBlk.cell hA1 4
  simp only [List.getElem?_cons_zero, List.getElem?_cons_succ] at a0 a1 a2 a3 a4
  have f0 := LBlk.frozen hA1 0
  have f1 := LBlk.frozen hA1 1
  have f2 := LBlk.frozen hA1 2
  have f3 := LBlk.frozen hA1 3
  have f4 := LBlk.frozen hA1 4
  have hla1 := LBlk.lt hA1
  obtain ⟨ring2, qa2, lA2, lc2, hI2⟩ := id hC2.out; have F2 := core_facts hI2
  have hlt2 := hC2.out.lt
  clear hI2 hA1 hA hb1 hq hC
  go_wp2
  refine bodyPost_ret (v := .tuple #[(⟨s.ea, 0, true, true, z⟩ : Bus).v, .bool true]) ?_ rfl ⟨rfl, grown_alloc w (grown_alloc w (grown_new5 w hg1.out w.heap.size (Nat.le_refl _) _ _ _ _ _) _) _⟩
  exact (results_cell_tmp2 (p := 2) (q := 3) (ty := 140) rfl _ _ w.heap.size 140 (⟨s.ea, 0, true, true, z⟩ : Bus).cells (0, 0) _ rfl (LBlk.alloc (LBlk.alloc (LBlk.set5 hA1h.out _ _ _ _ _) _) _) Tryz.underlying140 rfl (by kernel_rfl)).trans rfl
set_option maxRecDepth 100000 in
set_option maxHeartbeats 4000000 in
theorem want_x {p : Nat} {s : Core} (k : Int) (z : Bool) (q : List Step) (w : World) (hC : CoreAt p s w) (hq : s.q = ⟨k, z⟩ :: q) (h1 : k ≠ 1) (h2 : k ≠ 2) (h3 : k ≠ 3) (h5 : k ≠ 5) (h7 : k ≠ 7) (h11 : k ≠ 11) (h12 : k ≠ 12) (h6 : k ≠ 6) (h8 : k ≠ 8) (h9 : k ≠ 9) (h10 : k ≠ 10) :
    Calls Tryz.prog 72 #[.pointer (some ⟨p, 0, none⟩)] w fun e w' => e = .returned (.tuple #[(⟨65535, 0, true, false, z⟩ : Bus).v, .bool true]) ∧ w.grownBy w' none := by
  have hlt := hC.lt
  have hC1 := Lib.hid (hC.alloc (.cells #[.int .u16 0, .int .u8 0, .bool false, .bool false, .bool false] 140))
  have hA : LBlk (w.alloc (.cells #[.int .u16 0, .int .u8 0, .bool false, .bool false, .bool false] 140)) w.heap.size 140 [.int .u16 0, .int .u8 0, .bool false, .bool false, .bool false] := Blk.newAt w 140 _ w.heap.size rfl
  have b1 : (k == 1) = false := beq_eq_false_iff_ne.mpr h1
  have b2 : (k == 2) = false := beq_eq_false_iff_ne.mpr h2
  have b3 : (k == 3) = false := beq_eq_false_iff_ne.mpr h3
  have b5 : (k == 5) = false := beq_eq_false_iff_ne.mpr h5
  have b7 : (k == 7) = false := beq_eq_false_iff_ne.mpr h7
  have b11 : (k == 11) = false := beq_eq_false_iff_ne.mpr h11
  have b12 : (k == 12) = false := beq_eq_false_iff_ne.mpr h12
  have b6 : (k == 6) = false := beq_eq_false_iff_ne.mpr h6
  have b8 : (k == 8) = false := beq_eq_false_iff_ne.mpr h8
  have b9 : (k == 9) = false := beq_eq_false_iff_ne.mpr h9
  have b10 : (k == 10) = false := beq_eq_false_iff_ne.mpr h10
  clear h1 h2 h3 h5 h7 h11 h12 h6 h8 h9 h10
  go_enter Tryz.func72, Tryz.ntmps72
  go_wp2_with fail
  refine (Peek_core _ hC1.out).mono ?_
  rw [hq]
  rintro e w1 ⟨he, hb1⟩
  obtain rfl : e = .returned (.tuple #[.agg #[.int .i64 k, .bool z], .bool true]) := he
  have hA1 := hA.below hb1 hA.lt
  have hC2 := Lib.hid (CoreAt.below hC1.out hb1)
  have hg1 := Lib.hid (grown_then (grown_alloc w (World.grownBy.refl w none) (.cells #[.int .u16 0, .int .u8 0, .bool false, .bool false, .bool false] 140)) (grown_of_below hb1 none))
  have hA1h := Lib.hid hA1
  have a0 := LBlk.cell hA1 0
  have a1 := LBlk.cell hA1 1
  have a2 := LBlk.cell hA1 2
  have a3 := LBlk.cell hA1 3
  have a4 := LBlk.cell hA1 4
  simp only [List.getElem?_cons_zero, List.getElem?_cons_succ] at a0 a1 a2 a3 a4
  have f0 := LBlk.frozen hA1 0
  have f1 := LBlk.frozen hA1 1
  have f2 := LBlk.frozen hA1 2
  have f3 := LBlk.frozen hA1 3
  have f4 := LBlk.frozen hA1 4
  have hla1 := LBlk.lt hA1
  obtain ⟨ring2, qa2, lA2, lc2, hI2⟩ := id hC2.out; have F2 := core_facts hI2
  have hlt2 := hC2.out.lt
  clear hI2 hA1 hA hb1 hq hC
  go_wp2
  refine bodyPost_ret (v := .tuple #[(⟨65535, 0, true, false, z⟩ : Bus).v, .bool true]) ?_ rfl ⟨rfl, grown_alloc w (grown_alloc w (grown_new5 w hg1.out w.heap.size (Nat.le_refl _) _ _ _ _ _) _) _⟩
  exact (results_cell_tmp2 (p := 2) (q := 3) (ty := 140) rfl _ _ w.heap.size 140 (⟨65535, 0, true, false, z⟩ : Bus).cells (0, 0) _ rfl (LBlk.alloc (LBlk.alloc (LBlk.set5 hA1h.out _ _ _ _ _) _) _) Tryz.underlying140 rfl (by kernel_rfl)).trans rfl
set_option maxRecDepth 100000 in
set_option maxHeartbeats 4000000 in
theorem want_9 {p : Nat} {s : Core} (z : Bool) (q : List Step) (w : World) (hC : CoreAt p s w) (hq : s.q = ⟨9, z⟩ :: q) :
    Calls Tryz.prog 72 #[.pointer (some ⟨p, 0, none⟩)] w fun e w' => e = .returned (.tuple #[(⟨s.top, 0, true, false, z⟩ : Bus).v, .bool true]) ∧ w.grownBy w' none := by
  have hlt := hC.lt
  have hC1 := Lib.hid (hC.alloc (.cells #[.int .u16 0, .int .u8 0, .bool false, .bool false, .bool false] 140))
  have hA : LBlk (w.alloc (.cells #[.int .u16 0, .int .u8 0, .bool false, .bool false, .bool false] 140)) w.heap.size 140 [.int .u16 0, .int .u8 0, .bool false, .bool false, .bool false] := Blk.newAt w 140 _ w.heap.size rfl
  go_enter Tryz.func72, Tryz.ntmps72
  go_wp2_with fail
  refine (Peek_core _ hC1.out).mono ?_
  rw [hq]
  rintro e w1 ⟨he, hb1⟩
  obtain rfl : e = .returned (.tuple #[.agg #[.int .i64 9, .bool z], .bool true]) := he
  have hA1 := hA.below hb1 hA.lt
  have hC2 := Lib.hid (CoreAt.below hC1.out hb1)
  have hg1 := Lib.hid (grown_then (grown_alloc w (World.grownBy.refl w none) (.cells #[.int .u16 0, .int .u8 0, .bool false, .bool false, .bool false] 140)) (grown_of_below hb1 none))
  have hA1h := Lib.hid hA1
  have a0 := LBlk.cell hA1 0
  have a1 := LBlk.cell hA1 1
  have a2 := LBlk.cell hA1 2
  have a3 := LBlk.cell hA1 3
  have a4 := LBlk.cell hA1 4
  simp only [List.getElem?_cons_zero, List.getElem?_cons_succ] at a0 a1 a2 a3 a4
  have f0 := LBlk.frozen hA1 0
  have f1 := LBlk.frozen hA1 1
  have f2 := LBlk.frozen hA1 2
  have f3 := LBlk.frozen hA1 3
  have f4 := LBlk.frozen hA1 4
  have hla1 := LBlk.lt hA1
  obtain ⟨ring2, qa2, lA2, lc2, hI2⟩ := id hC2.out; have F2 := core_facts hI2
  have hlt2 := hC2.out.lt
  clear hI2 hA1 hA hb1 hq hC
  have HT := Lib.hid (fun (W : World) (h : CoreAt p s W) => top_t W h)
  obtain ⟨T, hT⟩ : ∃ T, s.top = T := ⟨_, rfl⟩
  rw [hT] at HT
  have HTT := Lib.hid hT
  clear hT
  go_wp2_with fail
  refine (HT.out _ ((hC2.out.alloc (.cells #[.int .i64 9, .bool z] 202)).alloc (.cells #[.int .u16 65535, .int .u8 0, .bool true, .bool false, .bool z] 140))).mono ?_
  rintro e w5 ⟨rfl, n, rfl⟩
  go_wp2
  have hAx := LBlk.drewN (LBlk.alloc (LBlk.alloc hA1h.out (.cells #[.int .i64 9, .bool z] 202)) (.cells #[.int .u16 65535, .int .u8 0, .bool true, .bool false, .bool z] 140)) n
  have hAy := LBlk.far hAx (p := ⟨w1.heap.size + 1, 0, none⟩) (by show w.heap.size ≠ w1.heap.size + 1; omega) (.int .u16 (T.toNat : Int))
  have hsz := hg1.out.size
  rw [HTT.out]
  refine bodyPost_ret (v := .tuple #[(⟨T, 0, true, false, z⟩ : Bus).v, .bool true]) ?_ rfl ⟨rfl, grown_new5 w (grown_new w (grown_drewN w (grown_alloc w (grown_alloc w hg1.out _) _) n) (w1.heap.size + 1) (by omega) 0 _) w.heap.size (Nat.le_refl _) _ _ _ _ _⟩
  exact (results_cell_tmp2 (p := 2) (q := 3) (ty := 140) rfl _ _ w.heap.size 140 (⟨T, 0, true, false, z⟩ : Bus).cells (0, 0) _ rfl (LBlk.set5 hAy _ _ _ _ _) Tryz.underlying140 rfl (by kernel_rfl)).trans rfl
set_option maxRecDepth 100000 in
set_option maxHeartbeats 4000000 in
theorem want_10 {p : Nat} {s : Core} (z : Bool) (q : List Step) (w : World) (hC : CoreAt p s w) (hq : s.q = ⟨10, z⟩ :: q) :
    Calls Tryz.prog 72 #[.pointer (some ⟨p, 0, none⟩)] w fun e w' => e = .returned (.tuple #[(⟨s.top, 0, true, false, z⟩ : Bus).v, .bool true]) ∧ w.grownBy w' none := by
  have hlt := hC.lt
  have hC1 := Lib.hid (hC.alloc (.cells #[.int .u16 0, .int .u8 0, .bool false, .bool false, .bool false] 140))
  have hA : LBlk (w.alloc (.cells #[.int .u16 0, .int .u8 0, .bool false, .bool false, .bool false] 140)) w.heap.size 140 [.int .u16 0, .int .u8 0, .bool false, .bool false, .bool false] := Blk.newAt w 140 _ w.heap.size rfl
  go_enter Tryz.func72, Tryz.ntmps72
  go_wp2_with fail
  refine (Peek_core _ hC1.out).mono ?_
  rw [hq]
  rintro e w1 ⟨he, hb1⟩
  obtain rfl : e = .returned (.tuple #[.agg #[.int .i64 10, .bool z], .bool true]) := he
  have hA1 := hA.below hb1 hA.lt
  have hC2 := Lib.hid (CoreAt.below hC1.out hb1)
  have hg1 := Lib.hid (grown_then (grown_alloc w (World.grownBy.refl w none) (.cells #[.int .u16 0, .int .u8 0, .bool false, .bool false, .bool false] 140)) (grown_of_below hb1 none))
  have hA1h := Lib.hid hA1
  have a0 := LBlk.cell hA1 0
  have a1 := LBlk.cell hA1 1
  have a2 := LBlk.cell hA1 2
  have a3 := LBlk.cell hA1 3
  have a4 := LBlk.cell hA1 4
  simp only [List.getElem?_cons_zero, List.getElem?_cons_succ] at a0 a1 a2 a3 a4
  have f0 := LBlk.frozen hA1 0
  have f1 := LBlk.frozen hA1 1
  have f2 := LBlk.frozen hA1 2
  have f3 := LBlk.frozen hA1 3
  have f4 := LBlk.frozen hA1 4
  have hla1 := LBlk.lt hA1
  obtain ⟨ring2, qa2, lA2, lc2, hI2⟩ := id hC2.out; have F2 := core_facts hI2
  have hlt2 := hC2.out.lt
  clear hI2 hA1 hA hb1 hq hC
  have HT := Lib.hid (fun (W : World) (h : CoreAt p s W) => top_t W h)
  obtain ⟨T, hT⟩ : ∃ T, s.top = T := ⟨_, rfl⟩
  rw [hT] at HT
  have HTT := Lib.hid hT
  clear hT
  go_wp2_with fail
  refine (HT.out _ ((hC2.out.alloc (.cells #[.int .i64 10, .bool z] 202)).alloc (.cells #[.int .u16 65535, .int .u8 0, .bool true, .bool false, .bool z] 140))).mono ?_
  rintro e w5 ⟨rfl, n, rfl⟩
  go_wp2
  have hAx := LBlk.drewN (LBlk.alloc (LBlk.alloc hA1h.out (.cells #[.int .i64 10, .bool z] 202)) (.cells #[.int .u16 65535, .int .u8 0, .bool true, .bool false, .bool z] 140)) n
  have hAy := LBlk.far hAx (p := ⟨w1.heap.size + 1, 0, none⟩) (by show w.heap.size ≠ w1.heap.size + 1; omega) (.int .u16 (T.toNat : Int))
  have hsz := hg1.out.size
  rw [HTT.out]
  refine bodyPost_ret (v := .tuple #[(⟨T, 0, true, false, z⟩ : Bus).v, .bool true]) ?_ rfl ⟨rfl, grown_new5 w (grown_new w (grown_drewN w (grown_alloc w (grown_alloc w hg1.out _) _) n) (w1.heap.size + 1) (by omega) 0 _) w.heap.size (Nat.le_refl _) _ _ _ _ _⟩
  exact (results_cell_tmp2 (p := 2) (q := 3) (ty := 140) rfl _ _ w.heap.size 140 (⟨T, 0, true, false, z⟩ : Bus).cells (0, 0) _ rfl (LBlk.set5 hAy _ _ _ _ _) Tryz.underlying140 rfl (by kernel_rfl)).trans rfl
set_option maxRecDepth 100000 in
set_option maxHeartbeats 4000000 in
theorem want_6f {p : Nat} {s : Core} (q : List Step) (w : World) (hC : CoreAt p s w) (hq : s.q = ⟨6, false⟩ :: q) :
    Calls Tryz.prog 72 #[.pointer (some ⟨p, 0, none⟩)] w fun e w' => e = .returned (.tuple #[(⟨s.ea, lo s.word, false, false, false⟩ : Bus).v, .bool true]) ∧ w.grownBy w' none := by
  have hlt := hC.lt
  have hC1 := Lib.hid (hC.alloc (.cells #[.int .u16 0, .int .u8 0, .bool false, .bool false, .bool false] 140))
  have hA : LBlk (w.alloc (.cells #[.int .u16 0, .int .u8 0, .bool false, .bool false, .bool false] 140)) w.heap.size 140 [.int .u16 0, .int .u8 0, .bool false, .bool false, .bool false] := Blk.newAt w 140 _ w.heap.size rfl
  go_enter Tryz.func72, Tryz.ntmps72
  go_wp2_with fail
  refine (Peek_core _ hC1.out).mono ?_
  rw [hq]
  rintro e w1 ⟨he, hb1⟩
  obtain rfl : e = .returned (.tuple #[.agg #[.int .i64 6, .bool false], .bool true]) := he
  have hA1 := hA.below hb1 hA.lt
  have hC2 := Lib.hid (CoreAt.below hC1.out hb1)
  have hg1 := Lib.hid (grown_then (grown_alloc w (World.grownBy.refl w none) (.cells #[.int .u16 0, .int .u8 0, .bool false, .bool false, .bool false] 140)) (grown_of_below hb1 none))
  have hA1h := Lib.hid hA1
  have a0 := LBlk.cell hA1 0
  have a1 := LBlk.cell hA1 1
  have a2 := LBlk.cell hA1 2
  have a3 := LBlk.cell hA1 3
  have a4 := LBlk.cell hA1 4
  simp only [List.getElem?_cons_zero, List.getElem?_cons_succ] at a0 a1 a2 a3 a4
  have f0 := LBlk.frozen hA1 0
  have f1 := LBlk.frozen hA1 1
  have f2 := LBlk.frozen hA1 2
  have f3 := LBlk.frozen hA1 3
  have f4 := LBlk.frozen hA1 4
  have hla1 := LBlk.lt hA1
  obtain ⟨ring2, qa2, lA2, lc2, hI2⟩ := id hC2.out; have F2 := core_facts hI2
  have hlt2 := hC2.out.lt
  clear hI2 hA1 hA hb1 hq hC
  go_wp2_with fail
  go_region_held3 (fun W => W.cell? ⟨p, 67, none⟩ = some (.int .u16 (s.ea.toNat : Int)) ∧ W.cell? ⟨p, 68, none⟩ = some (.int .u16 (s.word.toNat : Int))) (first | (go_keep; done) | assumption | (simp [*, set_far, World.cell?_alloc_some, World.cell?_setCell_far]; done)) (first | (go_at_call 30; refine (Low_t _ _).mono ?_; rintro e w1 ⟨rfl, rfl⟩))
  go_wp2_with (first | (go_at_call 29; refine (High_t _ _).mono ?_; rintro e w1 ⟨rfl, rfl⟩))
  refine bodyPost_ret (v := .tuple #[(⟨s.ea, lo s.word, false, false, false⟩ : Bus).v, .bool true]) ?_ rfl ⟨rfl, grown_drew w (grown_alloc w (grown_alloc w (grown_new5 w hg1.out w.heap.size (Nat.le_refl _) _ _ _ _ _) _) _)⟩
  exact (results_cell_tmp2 (p := 2) (q := 3) (ty := 140) rfl _ _ w.heap.size 140 (⟨s.ea, lo s.word, false, false, false⟩ : Bus).cells (0, 0) _ rfl (LBlk.drew (LBlk.alloc (LBlk.alloc (LBlk.set5 hA1h.out _ _ _ _ _) _) _)) Tryz.underlying140 rfl (by kernel_rfl)).trans rfl
set_option maxRecDepth 100000 in
set_option maxHeartbeats 4000000 in
theorem want_6t {p : Nat} {s : Core} (q : List Step) (w : World) (hC : CoreAt p s w) (hq : s.q = ⟨6, true⟩ :: q) :
    Calls Tryz.prog 72 #[.pointer (some ⟨p, 0, none⟩)] w fun e w' => e = .returned (.tuple #[(⟨s.ea, hi s.word, false, false, true⟩ : Bus).v, .bool true]) ∧ w.grownBy w' none := by
  have hlt := hC.lt
  have hC1 := Lib.hid (hC.alloc (.cells #[.int .u16 0, .int .u8 0, .bool false, .bool false, .bool false] 140))
  have hA : LBlk (w.alloc (.cells #[.int .u16 0, .int .u8 0, .bool false, .bool false, .bool false] 140)) w.heap.size 140 [.int .u16 0, .int .u8 0, .bool false, .bool false, .bool false] := Blk.newAt w 140 _ w.heap.size rfl
  go_enter Tryz.func72, Tryz.ntmps72
  go_wp2_with fail
  refine (Peek_core _ hC1.out).mono ?_
  rw [hq]
  rintro e w1 ⟨he, hb1⟩
  obtain rfl : e = .returned (.tuple #[.agg #[.int .i64 6, .bool true], .bool true]) := he
  have hA1 := hA.below hb1 hA.lt
  have hC2 := Lib.hid (CoreAt.below hC1.out hb1)
  have hg1 := Lib.hid (grown_then (grown_alloc w (World.grownBy.refl w none) (.cells #[.int .u16 0, .int .u8 0, .bool false, .bool false, .bool false] 140)) (grown_of_below hb1 none))
  have hA1h := Lib.hid hA1
  have a0 := LBlk.cell hA1 0
  have a1 := LBlk.cell hA1 1
  have a2 := LBlk.cell hA1 2
  have a3 := LBlk.cell hA1 3
  have a4 := LBlk.cell hA1 4
  simp only [List.getElem?_cons_zero, List.getElem?_cons_succ] at a0 a1 a2 a3 a4
  have f0 := LBlk.frozen hA1 0
  have f1 := LBlk.frozen hA1 1
  have f2 := LBlk.frozen hA1 2
  have f3 := LBlk.frozen hA1 3
  have f4 := LBlk.frozen hA1 4
  have hla1 := LBlk.lt hA1
  obtain ⟨ring2, qa2, lA2, lc2, hI2⟩ := id hC2.out; have F2 := core_facts hI2
  have hlt2 := hC2.out.lt
  clear hI2 hA1 hA hb1 hq hC
  go_wp2_with fail
  go_region_held3 (fun W => W.cell? ⟨p, 67, none⟩ = some (.int .u16 (s.ea.toNat : Int)) ∧ W.cell? ⟨p, 68, none⟩ = some (.int .u16 (s.word.toNat : Int))) (first | (go_keep; done) | assumption | (simp [*, set_far, World.cell?_alloc_some, World.cell?_setCell_far]; done)) (first | (go_at_call 30; refine (Low_t _ _).mono ?_; rintro e w1 ⟨rfl, rfl⟩))
  go_wp2_with (first | (go_at_call 29; refine (High_t _ _).mono ?_; rintro e w1 ⟨rfl, rfl⟩))
  refine bodyPost_ret (v := .tuple #[(⟨s.ea, hi s.word, false, false, true⟩ : Bus).v, .bool true]) ?_ rfl ⟨rfl, grown_drew w (grown_alloc w (grown_alloc w (grown_new5 w hg1.out w.heap.size (Nat.le_refl _) _ _ _ _ _) _) _)⟩
  exact (results_cell_tmp2 (p := 2) (q := 3) (ty := 140) rfl _ _ w.heap.size 140 (⟨s.ea, hi s.word, false, false, true⟩ : Bus).cells (0, 0) _ rfl (LBlk.drew (LBlk.alloc (LBlk.alloc (LBlk.set5 hA1h.out _ _ _ _ _) _) _)) Tryz.underlying140 rfl (by kernel_rfl)).trans rfl
set_option maxRecDepth 100000 in
set_option maxHeartbeats 4000000 in
theorem want_8 {p : Nat} {s : Core} (z : Bool) (q : List Step) (x : Part) (l : List Part) (w : World) (hC : CoreAt p s w) (hq : s.q = ⟨8, z⟩ :: q) (hl : s.list = x :: l) :
    Calls Tryz.prog 72 #[.pointer (some ⟨p, 0, none⟩)] w fun e w' => e = .returned (.tuple #[(⟨minusW s.top 1, s.r.byte x, false, false, z⟩ : Bus).v, .bool true]) ∧ w.grownBy w' none := by
  have hlt := hC.lt
  have hC1 := Lib.hid (hC.alloc (.cells #[.int .u16 0, .int .u8 0, .bool false, .bool false, .bool false] 140))
  have hA : LBlk (w.alloc (.cells #[.int .u16 0, .int .u8 0, .bool false, .bool false, .bool false] 140)) w.heap.size 140 [.int .u16 0, .int .u8 0, .bool false, .bool false, .bool false] := Blk.newAt w 140 _ w.heap.size rfl
  have HL := Lib.hid hl
  have e1 := minus1_e
  clear hl
  go_enter Tryz.func72, Tryz.ntmps72
  go_wp2_with fail
  refine (Peek_core _ hC1.out).mono ?_
  rw [hq]
  rintro e w1 ⟨he, hb1⟩
  obtain rfl : e = .returned (.tuple #[.agg #[.int .i64 8, .bool z], .bool true]) := he
  have hA1 := hA.below hb1 hA.lt
  have hC2 := Lib.hid (CoreAt.below hC1.out hb1)
  have hg1 := Lib.hid (grown_then (grown_alloc w (World.grownBy.refl w none) (.cells #[.int .u16 0, .int .u8 0, .bool false, .bool false, .bool false] 140)) (grown_of_below hb1 none))
  have hA1h := Lib.hid hA1
  have a0 := LBlk.cell hA1 0
  have a1 := LBlk.cell hA1 1
  have a2 := LBlk.cell hA1 2
  have a3 := LBlk.cell hA1 3
  have a4 := LBlk.cell hA1 4
  simp only [List.getElem?_cons_zero, List.getElem?_cons_succ] at a0 a1 a2 a3 a4
  have f0 := LBlk.frozen hA1 0
  have f1 := LBlk.frozen hA1 1
  have f2 := LBlk.frozen hA1 2
  have f3 := LBlk.frozen hA1 3
  have f4 := LBlk.frozen hA1 4
  have hla1 := LBlk.lt hA1
  obtain ⟨ring2, qa2, lA2, lc2, hI2⟩ := id hC2.out; have F2 := core_facts hI2
  have hlt2 := hC2.out.lt
  clear hI2 hA1 hA hb1 hq hC
  have HT := Lib.hid (fun (W : World) (h : CoreAt p s W) => top_t W h)
  have HB := Lib.hid (fun W => Byte_t s.r x.reg x.high W)
  obtain ⟨xr, xh⟩ := x
  obtain ⟨D, hD⟩ : ∃ D, s.r.byte ⟨xr, xh⟩ = D := ⟨_, rfl⟩
  obtain ⟨T, hT⟩ : ∃ T, s.top = T := ⟨_, rfl⟩
  rw [hT] at HT
  rw [hD] at HB
  have HTT := Lib.hid hT
  have HDD := Lib.hid hD
  clear hT hD
  obtain ⟨ring3, qa3, lA3, lc3, hI3⟩ := id hC2.out
  have hok : ListOk w1 lA3 (⟨xr, xh⟩ :: l) := HL.out ▸ hI3.list
  have hF3 := core_facts hI3
  have k70 : w1.cell? ⟨p, 70, none⟩ = some (.slice lA3 (s.list).length lc3) := hF3.1.2.2.2.2.2.2.2.2.2.2.2.2.2.2.2.2.2.2.2.2.2.2.2.2.2.2
  rw [HL.out] at k70
  obtain ⟨g, off, rfl, p0, p1, hgw⟩ := hok.head
  simp only [List.length_cons] at k70
  obtain ⟨m, hm⟩ : ∃ m, l.length = m := ⟨_, rfl⟩
  rw [hm] at k70
  have hcap : m + 1 ≤ lc3 := by have := HL.out ▸ hI3.cap; simp only [List.length_cons] at this; omega
  have K := (⟨hC2.out.c_a, hC2.out.c_b, hC2.out.c_dp, hC2.out.c_cc, hC2.out.c_x, hC2.out.c_y, hC2.out.c_u, hC2.out.c_s, hC2.out.c_pc⟩ : w1.cell? ⟨p, 0, none⟩ = some (.int .u8 (s.r.a.toNat : Int)) ∧ w1.cell? ⟨p, 1, none⟩ = some (.int .u8 (s.r.b.toNat : Int)) ∧ w1.cell? ⟨p, 2, none⟩ = some (.int .u8 (s.r.dp.toNat : Int)) ∧ w1.cell? ⟨p, 3, none⟩ = some (.int .u8 (s.r.cc.toNat : Int)) ∧ w1.cell? ⟨p, 4, none⟩ = some (.int .u16 (s.r.x.toNat : Int)) ∧ w1.cell? ⟨p, 5, none⟩ = some (.int .u16 (s.r.y.toNat : Int)) ∧ w1.cell? ⟨p, 6, none⟩ = some (.int .u16 (s.r.u.toNat : Int)) ∧ w1.cell? ⟨p, 7, none⟩ = some (.int .u16 (s.r.s.toNat : Int)) ∧ w1.cell? ⟨p, 8, none⟩ = some (.int .u16 (s.r.pc.toNat : Int)))
  clear F2 hI3 hok hF3 hm HL
  have hC0 := Lib.hid ((hC2.out.alloc (.cells #[.int .i64 8, .bool z] 202)).alloc (.cells #[.int .u16 65535, .int .u8 0, .bool true, .bool false, .bool z] 140))
  have hBus := Lib.hid (Blk.newAt (w1.alloc (.cells #[.int .i64 8, .bool z] 202)) 140 #[.int .u16 65535, .int .u8 0, .bool true, .bool false, .bool z] (w1.heap.size + 1) (by simp))
  have hAx := Lib.hid (LBlk.alloc (LBlk.alloc hA1h.out (.cells #[.int .i64 8, .bool z] 202)) (.cells #[.int .u16 65535, .int .u8 0, .bool true, .bool false, .bool z] 140))
  have hg0 := Lib.hid (grown_alloc w (grown_alloc w hg1.out (.cells #[.int .i64 8, .bool z] 202)) (.cells #[.int .u16 65535, .int .u8 0, .bool true, .bool false, .bool z] 140))
  have hsz := hg1.out.size
  have hneg : g ≠ w1.heap.size + 1 := by omega
  have hnep : p ≠ w1.heap.size + 1 := by omega
  have hneg2 : w1.heap.size + 1 ≠ g := by omega
  have hnep2 : w1.heap.size + 1 ≠ p := by omega
  have q0 : ((w1.alloc (.cells #[.int .i64 8, .bool z] 202)).alloc (.cells #[.int .u16 65535, .int .u8 0, .bool true, .bool false, .bool z] 140)).cell? ⟨g, off, none⟩ = some (.int .i64 xr) := by rw [World.cell?_alloc_some _ _ _ (by rw [World.cell?_alloc_some _ _ _ (by rw [p0]; rfl), p0]; rfl), World.cell?_alloc_some _ _ _ (by rw [p0]; rfl), p0]
  have q1 : ((w1.alloc (.cells #[.int .i64 8, .bool z] 202)).alloc (.cells #[.int .u16 65535, .int .u8 0, .bool true, .bool false, .bool z] 140)).cell? ⟨g, off + 1, none⟩ = some (.bool xh) := by rw [World.cell?_alloc_some _ _ _ (by rw [World.cell?_alloc_some _ _ _ (by rw [p1]; rfl), p1]; rfl), World.cell?_alloc_some _ _ _ (by rw [p1]; rfl), p1]
  have q70 : ((w1.alloc (.cells #[.int .i64 8, .bool z] 202)).alloc (.cells #[.int .u16 65535, .int .u8 0, .bool true, .bool false, .bool z] 140)).cell? ⟨p, 70, none⟩ = some (.slice (some ⟨g, off, none⟩) (m + 1) lc3) := by rw [World.cell?_alloc_some _ _ _ (by rw [World.cell?_alloc_some _ _ _ (by rw [k70]; rfl), k70]; rfl), World.cell?_alloc_some _ _ _ (by rw [k70]; rfl), k70]
  have hws : ((w1.alloc (.cells #[.int .i64 8, .bool z] 202)).alloc (.cells #[.int .u16 65535, .int .u8 0, .bool true, .bool false, .bool z] 140)).heap.size = w1.heap.size + 2 := by simp
  have KR := (⟨hC0.out.c_a, hC0.out.c_b, hC0.out.c_dp, hC0.out.c_cc, hC0.out.c_x, hC0.out.c_y, hC0.out.c_u, hC0.out.c_s, hC0.out.c_pc⟩ : ((w1.alloc (.cells #[.int .i64 8, .bool z] 202)).alloc (.cells #[.int .u16 65535, .int .u8 0, .bool true, .bool false, .bool z] 140)).cell? ⟨p, 0, none⟩ = some (.int .u8 (s.r.a.toNat : Int)) ∧ ((w1.alloc (.cells #[.int .i64 8, .bool z] 202)).alloc (.cells #[.int .u16 65535, .int .u8 0, .bool true, .bool false, .bool z] 140)).cell? ⟨p, 1, none⟩ = some (.int .u8 (s.r.b.toNat : Int)) ∧ ((w1.alloc (.cells #[.int .i64 8, .bool z] 202)).alloc (.cells #[.int .u16 65535, .int .u8 0, .bool true, .bool false, .bool z] 140)).cell? ⟨p, 2, none⟩ = some (.int .u8 (s.r.dp.toNat : Int)) ∧ ((w1.alloc (.cells #[.int .i64 8, .bool z] 202)).alloc (.cells #[.int .u16 65535, .int .u8 0, .bool true, .bool false, .bool z] 140)).cell? ⟨p, 3, none⟩ = some (.int .u8 (s.r.cc.toNat : Int)) ∧ ((w1.alloc (.cells #[.int .i64 8, .bool z] 202)).alloc (.cells #[.int .u16 65535, .int .u8 0, .bool true, .bool false, .bool z] 140)).cell? ⟨p, 4, none⟩ = some (.int .u16 (s.r.x.toNat : Int)) ∧ ((w1.alloc (.cells #[.int .i64 8, .bool z] 202)).alloc (.cells #[.int .u16 65535, .int .u8 0, .bool true, .bool false, .bool z] 140)).cell? ⟨p, 5, none⟩ = some (.int .u16 (s.r.y.toNat : Int)) ∧ ((w1.alloc (.cells #[.int .i64 8, .bool z] 202)).alloc (.cells #[.int .u16 65535, .int .u8 0, .bool true, .bool false, .bool z] 140)).cell? ⟨p, 6, none⟩ = some (.int .u16 (s.r.u.toNat : Int)) ∧ ((w1.alloc (.cells #[.int .i64 8, .bool z] 202)).alloc (.cells #[.int .u16 65535, .int .u8 0, .bool true, .bool false, .bool z] 140)).cell? ⟨p, 7, none⟩ = some (.int .u16 (s.r.s.toNat : Int)) ∧ ((w1.alloc (.cells #[.int .i64 8, .bool z] 202)).alloc (.cells #[.int .u16 65535, .int .u8 0, .bool true, .bool false, .bool z] 140)).cell? ⟨p, 8, none⟩ = some (.int .u16 (s.r.pc.toNat : Int)))
  clear K k70 p0 p1
  go_wp2_with fail
  generalize (w1.alloc (.cells #[.int .i64 8, .bool z] 202)).alloc (.cells #[.int .u16 65535, .int .u8 0, .bool true, .bool false, .bool z] 140) = w0 at *
  clear a0 a1 a2 a3 a4 f0 f1 f2 f3 f4
  go_region_held3 (fun W => W.cell? ⟨p, 0, none⟩ = some (.int .u8 (s.r.a.toNat : Int)) ∧ W.cell? ⟨p, 1, none⟩ = some (.int .u8 (s.r.b.toNat : Int)) ∧ W.cell? ⟨p, 2, none⟩ = some (.int .u8 (s.r.dp.toNat : Int)) ∧ W.cell? ⟨p, 3, none⟩ = some (.int .u8 (s.r.cc.toNat : Int)) ∧ W.cell? ⟨p, 4, none⟩ = some (.int .u16 (s.r.x.toNat : Int)) ∧ W.cell? ⟨p, 5, none⟩ = some (.int .u16 (s.r.y.toNat : Int)) ∧ W.cell? ⟨p, 6, none⟩ = some (.int .u16 (s.r.u.toNat : Int)) ∧ W.cell? ⟨p, 7, none⟩ = some (.int .u16 (s.r.s.toNat : Int)) ∧ W.cell? ⟨p, 8, none⟩ = some (.int .u16 (s.r.pc.toNat : Int)) ∧ W.cell? ⟨p, 70, none⟩ = some (.slice (some ⟨g, off, none⟩) (m + 1) lc3) ∧ W.cell? ⟨g, off, none⟩ = some (.int .i64 xr) ∧ W.cell? ⟨g, off + 1, none⟩ = some (.bool xh)) (first | with_reducible exact ⟨y0, y1, y2, y3, y4, y5, y6, y7, y8, y9, y10, y11⟩ | (simp only [World.cell?_setCell_far, hneg, hnep, hneg2, hnep2, ne_eq, not_false_eq_true, y0, y1, y2, y3, y4, y5, y6, y7, y8, y9, y10, y11, and_self]; done) | (go_keep; done)) (first | (go_at_call 116; refine (HT.out _ (by (repeat (with_reducible first | exact hC0.out | apply CoreAt.drew | apply CoreAt.drewN)))).mono ?_; rintro e w5 ⟨rfl, n, rfl⟩) | (go_at_call 117; refine (HB.out _).mono ?_; rintro e wE ⟨rfl, hbE⟩; have hCE : CoreAt p s wE := CoreAt.below (by (repeat (with_reducible first | exact hC0.out | apply CoreAt.drew | apply CoreAt.drewN))) hbE; have y0 := hCE.c_a; have y1 := hCE.c_b; have y2 := hCE.c_dp; have y3 := hCE.c_cc; have y4 := hCE.c_x; have y5 := hCE.c_y; have y6 := hCE.c_u; have y7 := hCE.c_s; have y8 := hCE.c_pc; have y9 : wE.cell? ⟨p, 70, none⟩ = _ := (hbE.cell (p := ⟨p, 70, none⟩) (by show p < w0.heap.size; omega)).trans q70; have y10 : wE.cell? ⟨g, off, none⟩ = _ := (hbE.cell (p := ⟨g, off, none⟩) (by show g < w0.heap.size; omega)).trans q0; have y11 : wE.cell? ⟨g, off + 1, none⟩ = _ := (hbE.cell (p := ⟨g, off + 1, none⟩) (by show g < w0.heap.size; omega)).trans q1; have hBy : Blk wE (w1.heap.size + 1) 140 _ := Blk.below (by (repeat (with_reducible first | exact hBus.out | apply Blk.drew | apply Blk.drewN))) hbE (by show w1.heap.size + 1 < w0.heap.size; omega); have m0 := hBy.cell 0; have m1 := hBy.cell 1; have m2 := hBy.cell 2; have m3 := hBy.cell 3; have m4 := hBy.cell 4; simp only [List.getElem?_toArray, List.getElem?_cons_zero, List.getElem?_cons_succ] at m0 m1 m2 m3 m4; have hfB := fun i => hBy.frozen i; have hAy : LBlk wE w.heap.size 140 [.int .u16 0, .int .u8 0, .bool false, .bool false, .bool false] := LBlk.below (by (repeat (with_reducible first | exact hAx.out | apply LBlk.drew | apply LBlk.drewN))) hbE (by show w.heap.size < w0.heap.size; omega)))
  have hgE := Lib.hid (grown_then (show w.grownBy _ none from (by (repeat (with_reducible first | exact hg0.out | apply grown_drew | apply grown_drewN)))) (grown_of_below hbE none))
  have hA2 := LBlk.far (LBlk.far (LBlk.far hAy (p := ⟨w1.heap.size + 1, 0, none⟩) (by show w.heap.size ≠ w1.heap.size + 1; omega) (.int .u16 ((minusW T 1).toNat : Int))) (p := ⟨w1.heap.size + 1, 2, none⟩) (by show w.heap.size ≠ w1.heap.size + 1; omega) (.bool false)) (p := ⟨w1.heap.size + 1, 1, none⟩) (by show w.heap.size ≠ w1.heap.size + 1; omega) (.int .u8 (D.toNat : Int))
  have hlb := hBy.lt
  have hlE := LBlk.lt hAy
  have hneA : w.heap.size ≠ w1.heap.size + 1 := by omega
  have hneA2 : w1.heap.size + 1 ≠ w.heap.size := by omega
  have hfa := fun i => LBlk.frozen hAy i
  have n0 := LBlk.cell hAy 0
  have n1 := LBlk.cell hAy 1
  have n2 := LBlk.cell hAy 2
  have n3 := LBlk.cell hAy 3
  have n4 := LBlk.cell hAy 4
  simp only [List.getElem?_cons_zero, List.getElem?_cons_succ] at n0 n1 n2 n3 n4
  have hA2h := Lib.hid hA2
  clear y0 y1 y2 y3 y4 y5 y6 y7 y8 y9 y10 y11 q0 q1 q70 KR hA2 hAy hBy
  go_wp2
  rw [HTT.out, HDD.out]
  refine bodyPost_ret (v := .tuple #[(⟨minusW T 1, D, false, false, z⟩ : Bus).v, .bool true]) ?_ rfl ⟨rfl, grown_new5 w (grown_new w (grown_new w (grown_new w hgE.out (w1.heap.size + 1) (by omega) 0 _) (w1.heap.size + 1) (by omega) 2 _) (w1.heap.size + 1) (by omega) 1 _) w.heap.size (Nat.le_refl _) _ _ _ _ _⟩
  exact (results_cell_tmp2 (p := 2) (q := 3) (ty := 140) rfl _ _ w.heap.size 140 (⟨minusW T 1, D, false, false, z⟩ : Bus).cells (0, 0) _ rfl (LBlk.set5 hA2h.out _ _ _ _ _) Tryz.underlying140 rfl (by kernel_rfl)).trans rfl
set_option maxRecDepth 100000 in
set_option maxHeartbeats 1000000 in
theorem want_t {p : Nat} {s : Core}  (w : World) (hC : CoreAt p s w) (hne : ∀ z q, s.q = ⟨8, z⟩ :: q → s.list ≠ []) :
    Calls Tryz.prog 72 #[.pointer (some ⟨p, 0, none⟩)] w fun e w' => e = .returned (.tuple #[s.want.1.v, .bool s.want.2]) ∧ w.grownBy w' none := by
  cases hq : s.q with
  | nil =>
    rw [show s.want = (⟨0, 0, false, false, false⟩, false) from by unfold Core.want; rw [hq]]
    exact want_nil w hC hq
  | cons t q =>
    obtain ⟨k, z⟩ := t
    by_cases h1 : k = 1
    · subst h1; rw [show s.want = (⟨s.r.pc, 0, true, false, z⟩, true) from by unfold Core.want; rw [hq]; rfl]; exact want_1 z q w hC hq
    by_cases h2 : k = 2
    · subst h2; rw [show s.want = (⟨s.r.pc, 0, true, false, z⟩, true) from by unfold Core.want; rw [hq]; rfl]; exact want_2 z q w hC hq
    by_cases h3 : k = 3
    · subst h3; rw [show s.want = (⟨s.r.pc, 0, true, false, z⟩, true) from by unfold Core.want; rw [hq]; rfl]; exact want_3 z q w hC hq
    by_cases h5 : k = 5
    · subst h5; rw [show s.want = (⟨s.ea, 0, true, false, z⟩, true) from by unfold Core.want; rw [hq]; rfl]; exact want_5 z q w hC hq
    by_cases h7 : k = 7
    · subst h7; rw [show s.want = (⟨s.ea, 0, true, false, z⟩, true) from by unfold Core.want; rw [hq]; rfl]; exact want_7 z q w hC hq
    by_cases h11 : k = 11
    · subst h11; rw [show s.want = (⟨s.ea, 0, true, false, z⟩, true) from by unfold Core.want; rw [hq]; rfl]; exact want_11 z q w hC hq
    by_cases h12 : k = 12
    · subst h12; rw [show s.want = (⟨s.ea, 0, true, true, z⟩, true) from by unfold Core.want; rw [hq]; rfl]; exact want_12 z q w hC hq
    by_cases h6 : k = 6
    · subst h6
      cases z
      · rw [show s.want = (⟨s.ea, lo s.word, false, false, false⟩, true) from by unfold Core.want; rw [hq]; rfl]; exact want_6f q w hC hq
      · rw [show s.want = (⟨s.ea, hi s.word, false, false, true⟩, true) from by unfold Core.want; rw [hq]; rfl]; exact want_6t q w hC hq
    by_cases h8 : k = 8
    · subst h8
      cases hl : s.list with
      | nil => exact absurd hl (hne z q hq)
      | cons x l =>
        rw [show s.want = (⟨minusW s.top 1, s.r.byte x, false, false, z⟩, true) from by unfold Core.want; rw [hq, hl]; rfl]
        exact want_8 z q x l w hC hq hl
    by_cases h9 : k = 9
    · subst h9; rw [show s.want = (⟨s.top, 0, true, false, z⟩, true) from by unfold Core.want; rw [hq]; rfl]; exact want_9 z q w hC hq
    by_cases h10 : k = 10
    · subst h10; rw [show s.want = (⟨s.top, 0, true, false, z⟩, true) from by unfold Core.want; rw [hq]; rfl]; exact want_10 z q w hC hq
    · rw [show s.want = (⟨65535, 0, true, false, z⟩, true) from by unfold Core.want; rw [hq]; simp [h1, h2, h3, h5, h7, h11, h12, h6, h8, h9, h10]]
      exact want_x k z q w hC hq h1 h2 h3 h5 h7 h11 h12 h6 h8 h9 h10
end Go.Proofs.YtkdaphkpllgmbaaGreat

/-
  Contracts of the processor's cycles: reset, sync, cwai, step.
-/
import Derived.Test.YtkdaphkpllgmbaaGreatM34
import Derived.Test.YtkdaphkpllgmbaaGreatM01
import Derived.StillTailTactics
namespace Go.Proofs.YtkdaphkpllgmbaaGreat
open Go.RowKit Sp
set_option linter.unusedVariables false
set_option linter.unusedSimpArgs false
attribute [local go_sem] Sp.Latch.v Sp.Arb.v Sp.Arb.cells Sp.Pins.v Sp.Regs.v Sp.Regs.cells
def Sp.Rec.cells (r : Sp.Rec) : Array Value := #[.int .u16 (r.addr.toNat : Int), .int .u8 (r.data.toNat : Int), .bool r.read, .bool r.ba, .bool r.bs, .bool r.lic, .bool r.avma, .bool r.busy, .bool r.mine]
def Sp.Rec.v (r : Sp.Rec) : Value := .agg r.cells
theorem RamAt.same_ {B g : Nat} {m : Nat → UInt8} {rom : Int} {pb : Nat → Option Nat} {cs : Array Value} {w w' : World} (h : RamAt B g m rom pb cs w) (hg : w'.heap[g]? = w.heap[g]?) (hp : ∀ i b, i < 256 → pb i = some b → w'.heap[b]? = w.heap[b]?) : RamAt B g m rom pb cs w' :=
  ⟨h.hB, hg.trans h.blk, h.size, h.romc, h.cell, h.nilp, fun i b hi e => by obtain ⟨⟨ps, h1, h2⟩, h3⟩ := h.page i b hi e; exact ⟨⟨ps, (hp i b hi e).trans h1, h2⟩, h3⟩, h.inj⟩
theorem RamAt.plt_ {B g : Nat} {m : Nat → UInt8} {rom : Int} {pb : Nat → Option Nat} {cs : Array Value} {w : World} (h : RamAt B g m rom pb cs w) {i b : Nat} (hi : i < 256) (e : pb i = some b) : b < w.heap.size := by
  obtain ⟨⟨ps, h1, _⟩, _⟩ := h.page i b hi e; exact h1.lt
/-- Another block, of another kind, has turned. -/
theorem RamAt.grown {B g x : Nat} {m : Nat → UInt8} {rom : Int} {pb : Nat → Option Nat} {cs : Array Value} {w w' : World} {t : TypeId} {xs : Array Value} (h : RamAt B g m rom pb cs w) (hx : Blk w x t xs) (h1 : 91 ≠ t) (h2 : 5 ≠ t) (hg : w.grownBy w' (some x)) : RamAt B g m rom pb cs w' :=
  h.same_ (hg.block g h.blk.lt (fun e => Blk.ne_ h.blk hx h1 (by injection e))) (fun i b hi e => by
    obtain ⟨⟨ps, hb, _⟩, _⟩ := h.page i b hi e
    exact hg.block b hb.lt (fun e2 => Blk.ne_ hb hx h2 (by injection e2)))
theorem mth_read (a : Addr) (w : World) : (method 418 61 (.pointer (some a)) "Read").run Tryz.prog w = .ok (16, .pointer (some a)) w := by kernel_rfl
theorem mth_write (a : Addr) (w : World) : (method 418 61 (.pointer (some a)) "Write").run Tryz.prog w = .ok (280, .pointer (some a)) w := by kernel_rfl
theorem Read_ffff {B g : Nat} {m : Nat → UInt8} {rom : Int} {pb : Nat → Option Nat} {cs : Array Value} (w : World) (h : RamAt B g m rom pb cs w) : Calls Tryz.prog 16 #[.pointer (some ⟨g, 0, none⟩), .int .u16 65535] w fun e w' => e = .returned (.int .u8 ((m 65535).toNat : Int)) ∧ Below w.heap.size w w' := Read_a 65535 w h (by decide)
theorem Read_fffe {B g : Nat} {m : Nat → UInt8} {rom : Int} {pb : Nat → Option Nat} {cs : Array Value} (w : World) (h : RamAt B g m rom pb cs w) : Calls Tryz.prog 16 #[.pointer (some ⟨g, 0, none⟩), .int .u16 65534] w fun e w' => e = .returned (.int .u8 ((m 65534).toNat : Int)) ∧ Below w.heap.size w w' := Read_a 65534 w h (by decide)
section
variable {w : World} {h : Nat} {x0 x1 x2 x3 x4 x5 x6 x7 x8 : Value} (a b c d e f i j k : Value)
abbrev st9 (w : World) (h : Nat) (a b c d e f i j k : Value) : World := ((((((((w.setCell ⟨h, 0, none⟩ a).setCell ⟨h, 1, none⟩ b).setCell ⟨h, 2, none⟩ c).setCell ⟨h, 3, none⟩ d).setCell ⟨h, 4, none⟩ e).setCell ⟨h, 5, none⟩ f).setCell ⟨h, 6, none⟩ i).setCell ⟨h, 7, none⟩ j).setCell ⟨h, 8, none⟩ k
theorem rec_set9 (B : LBlk w h 52 [x0, x1, x2, x3, x4, x5, x6, x7, x8]) : LBlk (st9 w h a b c d e f i j k) h 52 [a, b, c, d, e, f, i, j, k] := ((((((((B.set_ 0 a).set_ 1 b).set_ 2 c).set_ 3 d).set_ 4 e).set_ 5 f).set_ 6 i).set_ 7 j).set_ 8 k
theorem rec_grown9 (w : World) {r : Option Nat} {w' : World} (hg : w.grownBy w' r) (hh : w.heap.size ≤ h) : w.grownBy (st9 w' h a b c d e f i j k) r :=
  grown_new w (grown_new w (grown_new w (grown_new w (grown_new w (grown_new w (grown_new w (grown_new w (grown_new w hg h hh 0 a) h hh 1 b) h hh 2 c) h hh 3 d) h hh 4 e) h hh 5 f) h hh 6 i) h hh 7 j) h hh 8 k
/-- Into a record's block: nothing else turns. -/
theorem rec_own9 (w : World) : w.grownBy (st9 w h a b c d e f i j k) (some h) := grown_set w (grown_set w (grown_set w (grown_set w (grown_set w (grown_set w (grown_set w (grown_set w (grown_set w (World.grownBy.refl w (some h)) 0 a) 1 b) 2 c) 3 d) 4 e) 5 f) 6 i) 7 j) 8 k
end
/-- Another block turned: the processor is as it was. -/
theorem CpuIn.other {B N g p x : Nat} {lv : Value} {s : Cpu} {w w' : World} {t : TypeId} {xs : Array Value} (h : CpuIn B N g p lv s w) (hx : Blk w x t xs) (h1 : 97 ≠ t) (h2 : 209 ≠ t) (h3 : 219 ≠ t) (h4 : 5 ≠ t) (hg : w.grownBy w' (some x)) : CpuIn B N g p lv s w' := by
  obtain ⟨n, ys, ho, hn⟩ := h.log
  obtain ⟨ring, a, A, c, hk⟩ := h.core
  refine ⟨h.blk.grown hg (fun e => Blk.ne_ h.blk hx h1 (by injection e)), ⟨ring, a, A, c, hk.blk.grown hg (fun e => Blk.ne_ hk.blk hx h2 (by injection e)), hk.ring, hk.list.grown hx h3 hg, hk.cap⟩, ⟨n, ys, ho.kept hg (own_block ho hx h4), hn⟩, h.hg, h.hp⟩
set_option maxRecDepth 100000 in
set_option maxHeartbeats 4000000 in
theorem cpu_sync_a {B N g p gr : Nat} {lv : Value} {s : Cpu} {m : Nat → UInt8} {rom : Int} {pb : Nat → Option Nat} {cs : Array Value} (q : Sp.Pins) (w : World) (hC : CpuIn B N g p lv s w) (hR : RamAt B gr m rom pb cs w) (hw : wakes s.latch q = true) :
    Calls Tryz.prog 45 #[.pointer (some ⟨g, 0, none⟩), q.v, .iface 61 (.pointer (some ⟨gr, 0, none⟩))] w fun e w' => e = .returned (⟨65535, m 65535, true, false, false, true, true, false, true⟩ : Sp.Rec).v ∧ CpuIn B N g p lv { s with mode := 0 } w' ∧ RamAt B gr m rom pb cs w' ∧ w.grownBy w' (some g) := by
  have hC0 := (hC.alloc (.cells #[.bool q.reset, .bool q.nmi, .bool q.firq, .bool q.irq, .bool q.halt, .bool q.req] 48)).alloc (.cells #[.int .u16 0, .int .u8 0, .bool false, .bool false, .bool false, .bool false, .bool false, .bool false, .bool false] 52)
  have hb0 : Below w.heap.size w ((w.alloc (.cells #[.bool q.reset, .bool q.nmi, .bool q.firq, .bool q.irq, .bool q.halt, .bool q.req] 48)).alloc (.cells #[.int .u16 0, .int .u8 0, .bool false, .bool false, .bool false, .bool false, .bool false, .bool false, .bool false] 52)) := below_alloc (below_alloc (Below.refl _ _) _) _
  have hR0 := hR.below hb0
  have hP := Blk.alloc (Blk.newAt w 48 #[.bool q.reset, .bool q.nmi, .bool q.firq, .bool q.irq, .bool q.halt, .bool q.req] w.heap.size rfl) (.cells #[.int .u16 0, .int .u8 0, .bool false, .bool false, .bool false, .bool false, .bool false, .bool false, .bool false] 52)
  have hA : LBlk ((w.alloc (.cells #[.bool q.reset, .bool q.nmi, .bool q.firq, .bool q.irq, .bool q.halt, .bool q.req] 48)).alloc (.cells #[.int .u16 0, .int .u8 0, .bool false, .bool false, .bool false, .bool false, .bool false, .bool false, .bool false] 52)) (w.heap.size + 1) 52 [.int .u16 0, .int .u8 0, .bool false, .bool false, .bool false, .bool false, .bool false, .bool false, .bool false] := Blk.newAt (w.alloc (.cells #[.bool q.reset, .bool q.nmi, .bool q.firq, .bool q.irq, .bool q.halt, .bool q.req] 48)) 52 _ (w.heap.size + 1) (by simp)
  have hs0 : ((w.alloc (.cells #[.bool q.reset, .bool q.nmi, .bool q.firq, .bool q.irq, .bool q.halt, .bool q.req] 48)).alloc (.cells #[.int .u16 0, .int .u8 0, .bool false, .bool false, .bool false, .bool false, .bool false, .bool false, .bool false] 52)).heap.size = w.heap.size + 2 := by simp
  have F := cpu_facts hC0
  have hlt := hC0.lt
  have hltw := hC.lt
  have b0 := hP.cell 0
  have b1 := hP.cell 1
  have b2 := hP.cell 2
  have b3 := hP.cell 3
  have b4 := hP.cell 4
  have b5 := hP.cell 5
  simp only [List.getElem?_toArray, List.getElem?_cons_zero, List.getElem?_cons_succ] at b0 b1 b2 b3 b4 b5
  have HW := Lib.hid (fun W => wakes_t s.latch q W)
  rw [hw] at HW
  clear hw
  go_enter Tryz.func45, Tryz.ntmps45
  go_upto_region 1 with fail
  generalize ((w.alloc (.cells #[.bool q.reset, .bool q.nmi, .bool q.firq, .bool q.irq, .bool q.halt, .bool q.req] 48)).alloc (.cells #[.int .u16 0, .int .u8 0, .bool false, .bool false, .bool false, .bool false, .bool false, .bool false, .bool false] 52)) = w0 at *
  go_still_tail 6, (by kernel_rfl)
  change wpList _ _ _ _ _ w0.drew
  have hC1 := hC0.below_drew
  have hR1 := hR0.below (Below.refl _ _).drew
  have hA1 := LBlk.drew hA
  have hb1 := hb0.drew
  have hg1 := grown_of_below hb1 (some g)
  generalize w0.drew = w1 at *
  go_wp2_with fail
  refine (HW.out _).mono ?_
  rintro e w2 ⟨rfl, hb2⟩
  have hC2 := hC1.below hb2
  have F2 := cpu_facts hC2
  have hlt2 := hC2.lt
  have hCx := hC2.set_mode 0
  have hg2 := grown_then hg1 (grown_of_below hb2 (some g))
  have hgx := grown_set w hg2 6 (.int .i64 0)
  have hRx := (hR1.below hb2).grown hC2.blk (by decide) (by decide) (grown_set w2 (World.grownBy.refl w2 (some g)) 6 (.int .i64 0))
  have hAx := (LBlk.far (hA1.below hb2 hA1.lt) (p := ⟨g, 6, none⟩) (by show w.heap.size + 1 ≠ g; omega) (.int .i64 0))
  have HM := mth_read ⟨gr, 0, none⟩
  clear F
  go_wp2_with fail
  refine (Read_ffff _ hRx).mono ?_
  rintro e w3 ⟨rfl, hb3⟩
  have hC3 := hCx.below hb3
  have hR3 := hRx.below hb3
  have hA3 := hAx.below hb3 hAx.lt
  have hg3 := grown_then hgx (grown_of_below hb3 (some g))
  have n0 := LBlk.cell hA3 0
  have n1 := LBlk.cell hA3 1
  have n2 := LBlk.cell hA3 2
  have n3 := LBlk.cell hA3 3
  have n4 := LBlk.cell hA3 4
  have n5 := LBlk.cell hA3 5
  have n6 := LBlk.cell hA3 6
  have n7 := LBlk.cell hA3 7
  have n8 := LBlk.cell hA3 8
  simp only [List.getElem?_cons_zero, List.getElem?_cons_succ] at n0 n1 n2 n3 n4 n5 n6 n7 n8
  have fr0 := LBlk.frozen hA3 0
  have fr1 := LBlk.frozen hA3 1
  have fr2 := LBlk.frozen hA3 2
  have fr3 := LBlk.frozen hA3 3
  have fr4 := LBlk.frozen hA3 4
  have fr5 := LBlk.frozen hA3 5
  have fr6 := LBlk.frozen hA3 6
  have fr7 := LBlk.frozen hA3 7
  have fr8 := LBlk.frozen hA3 8
  have hla := hA3.lt
  have hC3h := Lib.hid hC3
  have hR3h := Lib.hid hR3
  have hA3h := Lib.hid hA3
  have hg3h := Lib.hid hg3
  clear hC3 hR3 hA3 hg3 hCx hRx hAx hgx F2
  go_wp2
  have hown := rec_own9 (h := w.heap.size + 1) (.int .u16 65535) (.int .u8 ((m 65535).toNat : Int)) (.bool true) (.bool false) (.bool false) (.bool true) (.bool true) (.bool false) (.bool true) w3
  refine bodyPost_ret (v := (⟨65535, m 65535, true, false, false, true, true, false, true⟩ : Sp.Rec).v) ?_ rfl ⟨rfl, hC3h.out.other hA3h.out (by decide) (by decide) (by decide) (by decide) hown, hR3h.out.grown hA3h.out (by decide) (by decide) hown, rec_grown9 _ _ _ _ _ _ _ _ _ w hg3h.out (by omega)⟩
  exact (results_cell_row rfl _ _ (w.heap.size + 1) 52 (⟨65535, m 65535, true, false, false, true, true, false, true⟩ : Sp.Rec).cells (0, 0) _ rfl (rec_set9 _ _ _ _ _ _ _ _ _ hA3h.out) Tryz.underlying52 rfl (by kernel_rfl)).trans rfl
set_option maxRecDepth 100000 in
set_option maxHeartbeats 4000000 in
theorem cpu_sync_b {B N g p gr : Nat} {lv : Value} {s : Cpu} {m : Nat → UInt8} {rom : Int} {pb : Nat → Option Nat} {cs : Array Value} (q : Sp.Pins) (w : World) (hC : CpuIn B N g p lv s w) (hR : RamAt B gr m rom pb cs w) (hw : wakes s.latch q = false) :
    Calls Tryz.prog 45 #[.pointer (some ⟨g, 0, none⟩), q.v, .iface 61 (.pointer (some ⟨gr, 0, none⟩))] w fun e w' => e = .returned (⟨65535, 0, true, true, false, false, false, false, true⟩ : Sp.Rec).v ∧ CpuIn B N g p lv s w' ∧ RamAt B gr m rom pb cs w' ∧ w.grownBy w' (some g) := by
  have hC0 := (hC.alloc (.cells #[.bool q.reset, .bool q.nmi, .bool q.firq, .bool q.irq, .bool q.halt, .bool q.req] 48)).alloc (.cells #[.int .u16 0, .int .u8 0, .bool false, .bool false, .bool false, .bool false, .bool false, .bool false, .bool false] 52)
  have hb0 : Below w.heap.size w ((w.alloc (.cells #[.bool q.reset, .bool q.nmi, .bool q.firq, .bool q.irq, .bool q.halt, .bool q.req] 48)).alloc (.cells #[.int .u16 0, .int .u8 0, .bool false, .bool false, .bool false, .bool false, .bool false, .bool false, .bool false] 52)) := below_alloc (below_alloc (Below.refl _ _) _) _
  have hR0 := hR.below hb0
  have hP := Blk.alloc (Blk.newAt w 48 #[.bool q.reset, .bool q.nmi, .bool q.firq, .bool q.irq, .bool q.halt, .bool q.req] w.heap.size rfl) (.cells #[.int .u16 0, .int .u8 0, .bool false, .bool false, .bool false, .bool false, .bool false, .bool false, .bool false] 52)
  have hA : LBlk ((w.alloc (.cells #[.bool q.reset, .bool q.nmi, .bool q.firq, .bool q.irq, .bool q.halt, .bool q.req] 48)).alloc (.cells #[.int .u16 0, .int .u8 0, .bool false, .bool false, .bool false, .bool false, .bool false, .bool false, .bool false] 52)) (w.heap.size + 1) 52 [.int .u16 0, .int .u8 0, .bool false, .bool false, .bool false, .bool false, .bool false, .bool false, .bool false] := Blk.newAt (w.alloc (.cells #[.bool q.reset, .bool q.nmi, .bool q.firq, .bool q.irq, .bool q.halt, .bool q.req] 48)) 52 _ (w.heap.size + 1) (by simp)
  have hs0 : ((w.alloc (.cells #[.bool q.reset, .bool q.nmi, .bool q.firq, .bool q.irq, .bool q.halt, .bool q.req] 48)).alloc (.cells #[.int .u16 0, .int .u8 0, .bool false, .bool false, .bool false, .bool false, .bool false, .bool false, .bool false] 52)).heap.size = w.heap.size + 2 := by simp
  have F := cpu_facts hC0
  have hlt := hC0.lt
  have hltw := hC.lt
  have b0 := hP.cell 0
  have b1 := hP.cell 1
  have b2 := hP.cell 2
  have b3 := hP.cell 3
  have b4 := hP.cell 4
  have b5 := hP.cell 5
  simp only [List.getElem?_toArray, List.getElem?_cons_zero, List.getElem?_cons_succ] at b0 b1 b2 b3 b4 b5
  have HW := Lib.hid (fun W => wakes_t s.latch q W)
  rw [hw] at HW
  clear hw
  go_enter Tryz.func45, Tryz.ntmps45
  go_upto_region 1 with fail
  generalize ((w.alloc (.cells #[.bool q.reset, .bool q.nmi, .bool q.firq, .bool q.irq, .bool q.halt, .bool q.req] 48)).alloc (.cells #[.int .u16 0, .int .u8 0, .bool false, .bool false, .bool false, .bool false, .bool false, .bool false, .bool false] 52)) = w0 at *
  go_still_tail 6, (by kernel_rfl)
  change wpList _ _ _ _ _ w0.drew
  have hC1 := hC0.below_drew
  have hR1 := hR0.below (Below.refl _ _).drew
  have hA1 := LBlk.drew hA
  have hb1 := hb0.drew
  have hg1 := grown_of_below hb1 (some g)
  generalize w0.drew = w1 at *
  go_wp2_with fail
  refine (HW.out _).mono ?_
  rintro e w3 ⟨rfl, hb3⟩
  have hC3h := Lib.hid (hC1.below hb3)
  have hR3h := Lib.hid (hR1.below hb3)
  have hA3 := hA1.below hb3 hA1.lt
  have hg3h := Lib.hid (grown_then hg1 (grown_of_below hb3 (some g)))
  have n0 := LBlk.cell hA3 0
  have n1 := LBlk.cell hA3 1
  have n2 := LBlk.cell hA3 2
  have n3 := LBlk.cell hA3 3
  have n4 := LBlk.cell hA3 4
  have n5 := LBlk.cell hA3 5
  have n6 := LBlk.cell hA3 6
  have n7 := LBlk.cell hA3 7
  have n8 := LBlk.cell hA3 8
  simp only [List.getElem?_cons_zero, List.getElem?_cons_succ] at n0 n1 n2 n3 n4 n5 n6 n7 n8
  have fr0 := LBlk.frozen hA3 0
  have fr1 := LBlk.frozen hA3 1
  have fr2 := LBlk.frozen hA3 2
  have fr3 := LBlk.frozen hA3 3
  have fr4 := LBlk.frozen hA3 4
  have fr5 := LBlk.frozen hA3 5
  have fr6 := LBlk.frozen hA3 6
  have fr7 := LBlk.frozen hA3 7
  have fr8 := LBlk.frozen hA3 8
  have hla := hA3.lt
  have hA3h := Lib.hid hA3
  clear F hA3
  go_wp2
  have hown := rec_own9 (h := w.heap.size + 1) (.int .u16 65535) (.int .u8 0) (.bool true) (.bool true) (.bool false) (.bool false) (.bool false) (.bool false) (.bool true) w3
  refine bodyPost_ret (v := (⟨65535, 0, true, true, false, false, false, false, true⟩ : Sp.Rec).v) ?_ rfl ⟨rfl, hC3h.out.other hA3h.out (by decide) (by decide) (by decide) (by decide) hown, hR3h.out.grown hA3h.out (by decide) (by decide) hown, rec_grown9 _ _ _ _ _ _ _ _ _ w hg3h.out (by omega)⟩
  exact (results_cell_row rfl _ _ (w.heap.size + 1) 52 (⟨65535, 0, true, true, false, false, false, false, true⟩ : Sp.Rec).cells (0, 0) _ rfl (rec_set9 _ _ _ _ _ _ _ _ _ hA3h.out) Tryz.underlying52 rfl (by kernel_rfl)).trans rfl
theorem CpuIn.newcore {B N g p p' : Nat} {lv : Value} {s : Cpu} {k : Core} {w : World} (h : CpuIn B N g p lv s w) (hk : CoreAt p' k w) (hp : B ≤ p') : CpuIn B N g p' lv { s with core := k } (w.setCell ⟨g, 18, none⟩ (.pointer (some ⟨p', 0, none⟩))) := by
  obtain ⟨n, xs, ho, hn⟩ := h.log
  exact ⟨h.blk.set_ 18 _, hk.far h.blk (by decide) (by decide) 18 _, ⟨n, xs, ho.kept (grown_set w (World.grownBy.refl w (some g)) 18 _) (own_block ho h.blk (by decide)), hn⟩, h.hg, hp⟩
set_option maxRecDepth 100000 in
set_option maxHeartbeats 4000000 in
theorem cpu_reset {B N g p gr : Nat} {lv : Value} {s : Cpu} {m : Nat → UInt8} {rom : Int} {pb : Nat → Option Nat} {cs : Array Value}  (w : World) (hC : CpuIn B N g p lv s w) (hR : RamAt B gr m rom pb cs w) (hBw : B ≤ w.heap.size) :
    Calls Tryz.prog 43 #[.pointer (some ⟨g, 0, none⟩), .iface 61 (.pointer (some ⟨gr, 0, none⟩))] w fun e w' => e = .returned (⟨65534, m 65534, true, false, false, false, true, false, true⟩ : Sp.Rec).v ∧ (∃ p', CpuIn B N g p' (.slice none 0 0) { s with latch := ⟨s.latch.level, false, false⟩, arb := ⟨0, 0⟩, mode := 4, row := 0, core := Core.new s.now } w' ∧ w.heap.size ≤ p') ∧ RamAt B gr m rom pb cs w' ∧ w.grownBy w' (some g) := by
  have hC0 := hC.alloc (.cells #[.int .u16 0, .int .u8 0, .bool false, .bool false, .bool false, .bool false, .bool false, .bool false, .bool false] 52)
  have hb0 : Below w.heap.size w (w.alloc (.cells #[.int .u16 0, .int .u8 0, .bool false, .bool false, .bool false, .bool false, .bool false, .bool false, .bool false] 52)) := below_alloc (Below.refl _ _) _
  have hR0 := hR.below hb0
  have hg0 := grown_of_below hb0 (some g)
  have hA : LBlk (w.alloc (.cells #[.int .u16 0, .int .u8 0, .bool false, .bool false, .bool false, .bool false, .bool false, .bool false, .bool false] 52)) w.heap.size 52 [.int .u16 0, .int .u8 0, .bool false, .bool false, .bool false, .bool false, .bool false, .bool false, .bool false] := Blk.newAt w 52 _ w.heap.size rfl
  have hltw := hC.lt
  clear hC hR
  go_enter Tryz.func43, Tryz.ntmps43
  go_wp2_with fail
  generalize w.alloc (.cells #[.int .u16 0, .int .u8 0, .bool false, .bool false, .bool false, .bool false, .bool false, .bool false, .bool false] 52) = w0 at *
  refine (cpu_clear _ hC0).mono ?_
  rintro e w1 ⟨rfl, hC1, hg1⟩
  have hR1 := hR0.grown hC0.blk (by decide) (by decide) hg1
  have hA1 := hA.grown hg1 (fun e => by injection e with e; omega)
  have hgw := grown_then hg0 hg1
  have F1 := cpu_facts hC1
  have hlt1 := hC1.lt
  clear hC0 hR0 hA hg1 hg0
  go_wp2_with fail
  refine (New_t s.now _).mono ?_
  rintro e w2 ⟨rfl, hK, hb2⟩
  have hs1 := hgw.size
  have hC2 := hC1.below hb2
  have hR2 := hR1.below hb2
  have hA2 := hA1.below hb2 hA1.lt
  have hg2 := grown_then hgw (grown_of_below hb2 (some g))
  have hC3 := (((hC2.set_mode 4).set_row 0).nolog).newcore (p' := w1.heap.size + 1) (k := Core.new s.now) (((hK.far hC2.blk (by decide) (by decide) 6 _).far (hC2.set_mode 4).blk (by decide) (by decide) 7 _).far ((hC2.set_mode 4).set_row 0).blk (by decide) (by decide) 8 _) (by omega)
  have hgs := grown_set w2 (grown_set w2 (grown_set w2 (grown_set w2 (World.grownBy.refl w2 (some g)) 6 (.int .i64 4)) 7 (.int .i64 0)) 8 (.slice none 0 0)) 18 (.pointer (some ⟨w1.heap.size + 1, 0, none⟩))
  have hRx := hR2.grown hC2.blk (by decide) (by decide) hgs
  have hAx := hA2.grown hgs (fun e => by injection e with e; omega)
  have hgx := grown_then hg2 hgs
  have F2 := cpu_facts hC2
  have hlt2 := hC2.lt
  have HM := mth_read ⟨gr, 0, none⟩
  have hpw : w.heap.size ≤ w1.heap.size + 1 := by omega
  clear F1 hC1 hR1 hA1 hK hb2 hR2 hA2 hg2 hgs hgw
  go_wp2_with fail
  refine (Read_fffe _ hRx).mono ?_
  rintro e w3 ⟨rfl, hb3⟩
  have hC3h := Lib.hid (hC3.below hb3)
  have hR3h := Lib.hid (hRx.below hb3)
  have hA3 := LBlk.below hAx hb3 (LBlk.lt hAx)
  have hg3h := Lib.hid (grown_then hgx (grown_of_below hb3 (some g)))
  have n0 := LBlk.cell hA3 0
  have n1 := LBlk.cell hA3 1
  have n2 := LBlk.cell hA3 2
  have n3 := LBlk.cell hA3 3
  have n4 := LBlk.cell hA3 4
  have n5 := LBlk.cell hA3 5
  have n6 := LBlk.cell hA3 6
  have n7 := LBlk.cell hA3 7
  have n8 := LBlk.cell hA3 8
  simp only [List.getElem?_cons_zero, List.getElem?_cons_succ] at n0 n1 n2 n3 n4 n5 n6 n7 n8
  have fr0 := LBlk.frozen hA3 0
  have fr1 := LBlk.frozen hA3 1
  have fr2 := LBlk.frozen hA3 2
  have fr3 := LBlk.frozen hA3 3
  have fr4 := LBlk.frozen hA3 4
  have fr5 := LBlk.frozen hA3 5
  have fr6 := LBlk.frozen hA3 6
  have fr7 := LBlk.frozen hA3 7
  have fr8 := LBlk.frozen hA3 8
  have hla := hA3.lt
  have hA3h := Lib.hid hA3
  clear F2 hA3 hC3 hRx hAx hgx hC2
  go_wp2
  have hown := rec_own9 (h := w.heap.size) (.int .u16 65534) (.int .u8 ((m 65534).toNat : Int)) (.bool true) (.bool false) (.bool false) (.bool false) (.bool true) (.bool false) (.bool true) w3
  refine bodyPost_ret (v := (⟨65534, m 65534, true, false, false, false, true, false, true⟩ : Sp.Rec).v) ?_ rfl ⟨rfl, ⟨_, hC3h.out.other hA3h.out (by decide) (by decide) (by decide) (by decide) hown, hpw⟩, hR3h.out.grown hA3h.out (by decide) (by decide) hown, rec_grown9 _ _ _ _ _ _ _ _ _ w hg3h.out (by omega)⟩
  exact (results_cell_row rfl _ _ w.heap.size 52 (⟨65534, m 65534, true, false, false, false, true, false, true⟩ : Sp.Rec).cells (0, 0) _ rfl (rec_set9 _ _ _ _ _ _ _ _ _ hA3h.out) Tryz.underlying52 rfl (by kernel_rfl)).trans rfl
theorem CpuIn.cblk {B N g p : Nat} {lv : Value} {s : Cpu} {w : World} (h : CpuIn B N g p lv s w) : ∃ cs, Blk w p 209 cs := by obtain ⟨_, _, _, _, h⟩ := h.core; exact ⟨_, h.blk⟩
theorem RamAt.fr {B N g p gr : Nat} {lv : Value} {s : Cpu} {m : Nat → UInt8} {rom : Int} {pb : Nat → Option Nat} {cs : Array Value} {w w' : World} (h : RamAt B gr m rom pb cs w) (hC : CpuIn B N g p lv s w) (hF : Fr (fun q => q = g ∨ q = p) w w') : RamAt B gr m rom pb cs w' := by
  obtain ⟨_, hp⟩ := hC.cblk
  refine h.same_ (hF.block gr h.blk.lt (fun e => e.elim (Blk.ne_ h.blk hC.blk (by decide)) (Blk.ne_ h.blk hp (by decide)))) (fun i b hi e => ?_)
  obtain ⟨⟨ps, hb, _⟩, _⟩ := h.page i b hi e
  exact hF.block b hb.lt (fun e => e.elim (Blk.ne_ hb hC.blk (by decide)) (Blk.ne_ hb hp (by decide)))
theorem LBlk.fr {X : Nat → Prop} {w w' : World} {g : Nat} {t : TypeId} {l : List Value} (h : LBlk w g t l) (hF : Fr X w w') (hx : ¬ X g) : LBlk w' g t l := (hF.block g h.lt hx).trans h
set_option maxRecDepth 100000 in
set_option maxHeartbeats 4000000 in
theorem cpu_cwai_a {B N g p gr : Nat} {lv : Value} {s : Cpu} {m : Nat → UInt8} {rom : Int} {pb : Nat → Option Nat} {cs : Array Value} (q : Sp.Pins) (k : Int) (w : World) (hC : CpuIn B N g p lv s w) (hR : RamAt B gr m rom pb cs w) (hx : prioBehind s.latch q s.now.cc = (k, true)) :
    Calls Tryz.prog 46 #[.pointer (some ⟨g, 0, none⟩), q.v, .iface 61 (.pointer (some ⟨gr, 0, none⟩))] w fun e w' => e = .returned (⟨65535, m 65535, true, false, false, false, true, false, true⟩ : Sp.Rec).v ∧ CpuIn B N g p (.slice none 0 0) (s.begin_ k) w' ∧ RamAt B gr m rom pb cs w' ∧ Fr (fun q => q = g ∨ q = p) w w' := by
  have hC0 := (hC.alloc (.cells #[.bool q.reset, .bool q.nmi, .bool q.firq, .bool q.irq, .bool q.halt, .bool q.req] 48)).alloc (.cells #[.int .u16 0, .int .u8 0, .bool false, .bool false, .bool false, .bool false, .bool false, .bool false, .bool false] 52)
  have hb0 : Below w.heap.size w ((w.alloc (.cells #[.bool q.reset, .bool q.nmi, .bool q.firq, .bool q.irq, .bool q.halt, .bool q.req] 48)).alloc (.cells #[.int .u16 0, .int .u8 0, .bool false, .bool false, .bool false, .bool false, .bool false, .bool false, .bool false] 52)) := below_alloc (below_alloc (Below.refl _ _) _) _
  have hR0 := hR.below hb0
  have hP := Blk.alloc (Blk.newAt w 48 #[.bool q.reset, .bool q.nmi, .bool q.firq, .bool q.irq, .bool q.halt, .bool q.req] w.heap.size rfl) (.cells #[.int .u16 0, .int .u8 0, .bool false, .bool false, .bool false, .bool false, .bool false, .bool false, .bool false] 52)
  have hA : LBlk ((w.alloc (.cells #[.bool q.reset, .bool q.nmi, .bool q.firq, .bool q.irq, .bool q.halt, .bool q.req] 48)).alloc (.cells #[.int .u16 0, .int .u8 0, .bool false, .bool false, .bool false, .bool false, .bool false, .bool false, .bool false] 52)) (w.heap.size + 1) 52 [.int .u16 0, .int .u8 0, .bool false, .bool false, .bool false, .bool false, .bool false, .bool false, .bool false] := Blk.newAt (w.alloc (.cells #[.bool q.reset, .bool q.nmi, .bool q.firq, .bool q.irq, .bool q.halt, .bool q.req] 48)) 52 _ (w.heap.size + 1) (by simp)
  have hs0 : ((w.alloc (.cells #[.bool q.reset, .bool q.nmi, .bool q.firq, .bool q.irq, .bool q.halt, .bool q.req] 48)).alloc (.cells #[.int .u16 0, .int .u8 0, .bool false, .bool false, .bool false, .bool false, .bool false, .bool false, .bool false] 52)).heap.size = w.heap.size + 2 := by simp
  have F := cpu_facts hC0
  have hlt := hC0.lt
  have hltw := hC.lt
  have b0 := hP.cell 0
  have b1 := hP.cell 1
  have b2 := hP.cell 2
  have b3 := hP.cell 3
  have b4 := hP.cell 4
  have b5 := hP.cell 5
  simp only [List.getElem?_toArray, List.getElem?_cons_zero, List.getElem?_cons_succ] at b0 b1 b2 b3 b4 b5
  have HW := Lib.hid (fun W => behindP_t s.latch q s.now.cc W)
  rw [hx] at HW
  clear hx
  have hlb := hP.lt
  have x0 := F.1.1
  have x1 := F.1.2.1
  have x2 := F.1.2.2.1
  have x3 := F.1.2.2.2.2.2.2.2.2.2.2.2.2.1
  have hng : w.heap.size ≠ g := by omega
  go_enter Tryz.func46, Tryz.ntmps46
  go_upto_region 1 with fail
  generalize ((w.alloc (.cells #[.bool q.reset, .bool q.nmi, .bool q.firq, .bool q.irq, .bool q.halt, .bool q.req] 48)).alloc (.cells #[.int .u16 0, .int .u8 0, .bool false, .bool false, .bool false, .bool false, .bool false, .bool false, .bool false] 52)) = w0 at *
  go_region_held3 (fun W => W.cell? ⟨g, 0, none⟩ = some (.bool s.latch.level) ∧ W.cell? ⟨g, 1, none⟩ = some (.bool s.latch.armed) ∧ W.cell? ⟨g, 2, none⟩ = some (.bool s.latch.set) ∧ W.cell? ⟨g, 12, none⟩ = some (.int .u8 (s.now.cc.toNat : Int)) ∧ W.cell? ⟨w.heap.size, 0, none⟩ = some (.bool q.reset) ∧ W.cell? ⟨w.heap.size, 1, none⟩ = some (.bool q.nmi) ∧ W.cell? ⟨w.heap.size, 2, none⟩ = some (.bool q.firq) ∧ W.cell? ⟨w.heap.size, 3, none⟩ = some (.bool q.irq) ∧ W.cell? ⟨w.heap.size, 4, none⟩ = some (.bool q.halt) ∧ W.cell? ⟨w.heap.size, 5, none⟩ = some (.bool q.req)) (first | with_reducible exact ⟨y0, y1, y2, y3, y4, y5, y6, y7, y8, y9⟩ | (go_keep; done) | assumption) (first | (go_at_call 78; refine (HW.out _).mono ?_; rintro e wE ⟨rfl, hbE⟩; have y0 : wE.cell? ⟨g, 0, none⟩ = _ := (hbE.cell (p := ⟨g, 0, none⟩) hlt).trans x0; have y1 : wE.cell? ⟨g, 1, none⟩ = _ := (hbE.cell (p := ⟨g, 1, none⟩) hlt).trans x1; have y2 : wE.cell? ⟨g, 2, none⟩ = _ := (hbE.cell (p := ⟨g, 2, none⟩) hlt).trans x2; have y3 : wE.cell? ⟨g, 12, none⟩ = _ := (hbE.cell (p := ⟨g, 12, none⟩) hlt).trans x3; have y4 : wE.cell? ⟨w.heap.size, 0, none⟩ = _ := (hbE.cell (p := ⟨w.heap.size, 0, none⟩) hlb).trans b0; have y5 : wE.cell? ⟨w.heap.size, 1, none⟩ = _ := (hbE.cell (p := ⟨w.heap.size, 1, none⟩) hlb).trans b1; have y6 : wE.cell? ⟨w.heap.size, 2, none⟩ = _ := (hbE.cell (p := ⟨w.heap.size, 2, none⟩) hlb).trans b2; have y7 : wE.cell? ⟨w.heap.size, 3, none⟩ = _ := (hbE.cell (p := ⟨w.heap.size, 3, none⟩) hlb).trans b3; have y8 : wE.cell? ⟨w.heap.size, 4, none⟩ = _ := (hbE.cell (p := ⟨w.heap.size, 4, none⟩) hlb).trans b4; have y9 : wE.cell? ⟨w.heap.size, 5, none⟩ = _ := (hbE.cell (p := ⟨w.heap.size, 5, none⟩) hlb).trans b5))
  have hC1 := hC0.below_drew.below hbE
  have hR1 := (hR0.below (Below.refl _ _).drew).below hbE
  have hA1 := LBlk.below (LBlk.drew hA) hbE (LBlk.lt hA)
  have hf1 : Fr (fun q => q = g ∨ q = p) w wE := Fr.grown (grown_then (grown_of_below hb0.drew (some g)) (grown_of_below hbE (some g))) (fun q e => .inl (by injection e with e; exact e.symm))
  have HM := mth_read ⟨gr, 0, none⟩
  have hltE := hC1.lt
  have hltp := hC.ltp
  clear F hC0 hR0 hA hb0 x0 x1 x2 x3 y0 y1 y2 y3 y4 y5 y6 y7 y8 y9 b0 b1 b2 b3 b4 b5
  go_wp2_with fail
  refine (cpu_begin k _ hC1).mono ?_
  rintro e w2 ⟨rfl, hC2, hF2⟩
  have hR2 := hR1.fr hC1 hF2
  have hA2 := hA1.fr hF2 (fun e => e.elim (fun h => by omega) (fun h => by omega))
  have hf2 := hf1.trans hF2 (fun q e => .inl e)
  clear hC1 hR1 hA1 hf1
  have hlt2 := hC2.lt
  go_wp2_with fail
  refine (Read_ffff _ hR2).mono ?_
  rintro e w3 ⟨rfl, hb3⟩
  have hC3h := Lib.hid (hC2.below hb3)
  have hR3h := Lib.hid (hR2.below hb3)
  have hA3 := LBlk.below hA2 hb3 (LBlk.lt hA2)
  have hf3h := Lib.hid (hf2.trans (Fr.grown (X := fun q => q = g) (grown_of_below hb3 (some g)) (fun q e => by injection e with e; exact e.symm)) (fun q e => .inl (.inl e)))
  have n0 := LBlk.cell hA3 0
  have n1 := LBlk.cell hA3 1
  have n2 := LBlk.cell hA3 2
  have n3 := LBlk.cell hA3 3
  have n4 := LBlk.cell hA3 4
  have n5 := LBlk.cell hA3 5
  have n6 := LBlk.cell hA3 6
  have n7 := LBlk.cell hA3 7
  have n8 := LBlk.cell hA3 8
  simp only [List.getElem?_cons_zero, List.getElem?_cons_succ] at n0 n1 n2 n3 n4 n5 n6 n7 n8
  have fr0 := LBlk.frozen hA3 0
  have fr1 := LBlk.frozen hA3 1
  have fr2 := LBlk.frozen hA3 2
  have fr3 := LBlk.frozen hA3 3
  have fr4 := LBlk.frozen hA3 4
  have fr5 := LBlk.frozen hA3 5
  have fr6 := LBlk.frozen hA3 6
  have fr7 := LBlk.frozen hA3 7
  have fr8 := LBlk.frozen hA3 8
  have hla := hA3.lt
  have hA3h := Lib.hid hA3
  clear hA3 hC2 hR2 hA2 hf2
  go_wp2
  have hown := rec_own9 (h := w.heap.size + 1) (.int .u16 65535) (.int .u8 ((m 65535).toNat : Int)) (.bool true) (.bool false) (.bool false) (.bool false) (.bool true) (.bool false) (.bool true) w3
  refine bodyPost_ret (v := (⟨65535, m 65535, true, false, false, false, true, false, true⟩ : Sp.Rec).v) ?_ rfl ⟨rfl, hC3h.out.other hA3h.out (by decide) (by decide) (by decide) (by decide) hown, hR3h.out.grown hA3h.out (by decide) (by decide) hown, hf3h.out.trans (Fr.grown (X := fun q => q = w.heap.size + 1) hown (fun q e => by injection e with e; exact e.symm)) (fun q e => .inr (by omega))⟩
  exact (results_cell_row rfl _ _ (w.heap.size + 1) 52 (⟨65535, m 65535, true, false, false, false, true, false, true⟩ : Sp.Rec).cells (0, 0) _ rfl (rec_set9 _ _ _ _ _ _ _ _ _ hA3h.out) Tryz.underlying52 rfl (by kernel_rfl)).trans rfl
set_option maxRecDepth 100000 in
set_option maxHeartbeats 4000000 in
theorem cpu_cwai_b {B N g p gr : Nat} {lv : Value} {s : Cpu} {m : Nat → UInt8} {rom : Int} {pb : Nat → Option Nat} {cs : Array Value} (q : Sp.Pins) (k : Int) (w : World) (hC : CpuIn B N g p lv s w) (hR : RamAt B gr m rom pb cs w) (hx : prioBehind s.latch q s.now.cc = (k, false)) :
    Calls Tryz.prog 46 #[.pointer (some ⟨g, 0, none⟩), q.v, .iface 61 (.pointer (some ⟨gr, 0, none⟩))] w fun e w' => e = .returned (⟨65535, m 65535, true, false, false, false, false, false, true⟩ : Sp.Rec).v ∧ CpuIn B N g p lv s w' ∧ RamAt B gr m rom pb cs w' ∧ Fr (fun q => q = g ∨ q = p) w w' := by
  have hC0 := (hC.alloc (.cells #[.bool q.reset, .bool q.nmi, .bool q.firq, .bool q.irq, .bool q.halt, .bool q.req] 48)).alloc (.cells #[.int .u16 0, .int .u8 0, .bool false, .bool false, .bool false, .bool false, .bool false, .bool false, .bool false] 52)
  have hb0 : Below w.heap.size w ((w.alloc (.cells #[.bool q.reset, .bool q.nmi, .bool q.firq, .bool q.irq, .bool q.halt, .bool q.req] 48)).alloc (.cells #[.int .u16 0, .int .u8 0, .bool false, .bool false, .bool false, .bool false, .bool false, .bool false, .bool false] 52)) := below_alloc (below_alloc (Below.refl _ _) _) _
  have hR0 := hR.below hb0
  have hP := Blk.alloc (Blk.newAt w 48 #[.bool q.reset, .bool q.nmi, .bool q.firq, .bool q.irq, .bool q.halt, .bool q.req] w.heap.size rfl) (.cells #[.int .u16 0, .int .u8 0, .bool false, .bool false, .bool false, .bool false, .bool false, .bool false, .bool false] 52)
  have hA : LBlk ((w.alloc (.cells #[.bool q.reset, .bool q.nmi, .bool q.firq, .bool q.irq, .bool q.halt, .bool q.req] 48)).alloc (.cells #[.int .u16 0, .int .u8 0, .bool false, .bool false, .bool false, .bool false, .bool false, .bool false, .bool false] 52)) (w.heap.size + 1) 52 [.int .u16 0, .int .u8 0, .bool false, .bool false, .bool false, .bool false, .bool false, .bool false, .bool false] := Blk.newAt (w.alloc (.cells #[.bool q.reset, .bool q.nmi, .bool q.firq, .bool q.irq, .bool q.halt, .bool q.req] 48)) 52 _ (w.heap.size + 1) (by simp)
  have hs0 : ((w.alloc (.cells #[.bool q.reset, .bool q.nmi, .bool q.firq, .bool q.irq, .bool q.halt, .bool q.req] 48)).alloc (.cells #[.int .u16 0, .int .u8 0, .bool false, .bool false, .bool false, .bool false, .bool false, .bool false, .bool false] 52)).heap.size = w.heap.size + 2 := by simp
  have F := cpu_facts hC0
  have hlt := hC0.lt
  have hltw := hC.lt
  have b0 := hP.cell 0
  have b1 := hP.cell 1
  have b2 := hP.cell 2
  have b3 := hP.cell 3
  have b4 := hP.cell 4
  have b5 := hP.cell 5
  simp only [List.getElem?_toArray, List.getElem?_cons_zero, List.getElem?_cons_succ] at b0 b1 b2 b3 b4 b5
  have HW := Lib.hid (fun W => behindP_t s.latch q s.now.cc W)
  rw [hx] at HW
  clear hx
  have hlb := hP.lt
  have x0 := F.1.1
  have x1 := F.1.2.1
  have x2 := F.1.2.2.1
  have x3 := F.1.2.2.2.2.2.2.2.2.2.2.2.2.1
  have hng : w.heap.size ≠ g := by omega
  go_enter Tryz.func46, Tryz.ntmps46
  go_upto_region 1 with fail
  generalize ((w.alloc (.cells #[.bool q.reset, .bool q.nmi, .bool q.firq, .bool q.irq, .bool q.halt, .bool q.req] 48)).alloc (.cells #[.int .u16 0, .int .u8 0, .bool false, .bool false, .bool false, .bool false, .bool false, .bool false, .bool false] 52)) = w0 at *
  go_region_held3 (fun W => W.cell? ⟨g, 0, none⟩ = some (.bool s.latch.level) ∧ W.cell? ⟨g, 1, none⟩ = some (.bool s.latch.armed) ∧ W.cell? ⟨g, 2, none⟩ = some (.bool s.latch.set) ∧ W.cell? ⟨g, 12, none⟩ = some (.int .u8 (s.now.cc.toNat : Int)) ∧ W.cell? ⟨w.heap.size, 0, none⟩ = some (.bool q.reset) ∧ W.cell? ⟨w.heap.size, 1, none⟩ = some (.bool q.nmi) ∧ W.cell? ⟨w.heap.size, 2, none⟩ = some (.bool q.firq) ∧ W.cell? ⟨w.heap.size, 3, none⟩ = some (.bool q.irq) ∧ W.cell? ⟨w.heap.size, 4, none⟩ = some (.bool q.halt) ∧ W.cell? ⟨w.heap.size, 5, none⟩ = some (.bool q.req)) (first | with_reducible exact ⟨y0, y1, y2, y3, y4, y5, y6, y7, y8, y9⟩ | (go_keep; done) | assumption) (first | (go_at_call 78; refine (HW.out _).mono ?_; rintro e wE ⟨rfl, hbE⟩; have y0 : wE.cell? ⟨g, 0, none⟩ = _ := (hbE.cell (p := ⟨g, 0, none⟩) hlt).trans x0; have y1 : wE.cell? ⟨g, 1, none⟩ = _ := (hbE.cell (p := ⟨g, 1, none⟩) hlt).trans x1; have y2 : wE.cell? ⟨g, 2, none⟩ = _ := (hbE.cell (p := ⟨g, 2, none⟩) hlt).trans x2; have y3 : wE.cell? ⟨g, 12, none⟩ = _ := (hbE.cell (p := ⟨g, 12, none⟩) hlt).trans x3; have y4 : wE.cell? ⟨w.heap.size, 0, none⟩ = _ := (hbE.cell (p := ⟨w.heap.size, 0, none⟩) hlb).trans b0; have y5 : wE.cell? ⟨w.heap.size, 1, none⟩ = _ := (hbE.cell (p := ⟨w.heap.size, 1, none⟩) hlb).trans b1; have y6 : wE.cell? ⟨w.heap.size, 2, none⟩ = _ := (hbE.cell (p := ⟨w.heap.size, 2, none⟩) hlb).trans b2; have y7 : wE.cell? ⟨w.heap.size, 3, none⟩ = _ := (hbE.cell (p := ⟨w.heap.size, 3, none⟩) hlb).trans b3; have y8 : wE.cell? ⟨w.heap.size, 4, none⟩ = _ := (hbE.cell (p := ⟨w.heap.size, 4, none⟩) hlb).trans b4; have y9 : wE.cell? ⟨w.heap.size, 5, none⟩ = _ := (hbE.cell (p := ⟨w.heap.size, 5, none⟩) hlb).trans b5))
  have hC1 := hC0.below_drew.below hbE
  have hR1 := (hR0.below (Below.refl _ _).drew).below hbE
  have hA1 := LBlk.below (LBlk.drew hA) hbE (LBlk.lt hA)
  have hf1 : Fr (fun q => q = g ∨ q = p) w wE := Fr.grown (grown_then (grown_of_below hb0.drew (some g)) (grown_of_below hbE (some g))) (fun q e => .inl (by injection e with e; exact e.symm))
  have HM := mth_read ⟨gr, 0, none⟩
  have hltE := hC1.lt
  have hltp := hC.ltp
  clear F hC0 hR0 hA hb0 x0 x1 x2 x3 y0 y1 y2 y3 y4 y5 y6 y7 y8 y9 b0 b1 b2 b3 b4 b5
  have hC2 := hC1
  have hR2 := hR1
  have hA2 := hA1
  have hf2 := hf1
  clear hC1 hR1 hA1 hf1
  have hlt2 := hC2.lt
  go_wp2_with fail
  refine (Read_ffff _ hR2).mono ?_
  rintro e w3 ⟨rfl, hb3⟩
  have hC3h := Lib.hid (hC2.below hb3)
  have hR3h := Lib.hid (hR2.below hb3)
  have hA3 := LBlk.below hA2 hb3 (LBlk.lt hA2)
  have hf3h := Lib.hid (hf2.trans (Fr.grown (X := fun q => q = g) (grown_of_below hb3 (some g)) (fun q e => by injection e with e; exact e.symm)) (fun q e => .inl (.inl e)))
  have n0 := LBlk.cell hA3 0
  have n1 := LBlk.cell hA3 1
  have n2 := LBlk.cell hA3 2
  have n3 := LBlk.cell hA3 3
  have n4 := LBlk.cell hA3 4
  have n5 := LBlk.cell hA3 5
  have n6 := LBlk.cell hA3 6
  have n7 := LBlk.cell hA3 7
  have n8 := LBlk.cell hA3 8
  simp only [List.getElem?_cons_zero, List.getElem?_cons_succ] at n0 n1 n2 n3 n4 n5 n6 n7 n8
  have fr0 := LBlk.frozen hA3 0
  have fr1 := LBlk.frozen hA3 1
  have fr2 := LBlk.frozen hA3 2
  have fr3 := LBlk.frozen hA3 3
  have fr4 := LBlk.frozen hA3 4
  have fr5 := LBlk.frozen hA3 5
  have fr6 := LBlk.frozen hA3 6
  have fr7 := LBlk.frozen hA3 7
  have fr8 := LBlk.frozen hA3 8
  have hla := hA3.lt
  have hA3h := Lib.hid hA3
  clear hA3 hC2 hR2 hA2 hf2
  go_wp2
  have hown := rec_own9 (h := w.heap.size + 1) (.int .u16 65535) (.int .u8 ((m 65535).toNat : Int)) (.bool true) (.bool false) (.bool false) (.bool false) (.bool false) (.bool false) (.bool true) w3
  refine bodyPost_ret (v := (⟨65535, m 65535, true, false, false, false, false, false, true⟩ : Sp.Rec).v) ?_ rfl ⟨rfl, hC3h.out.other hA3h.out (by decide) (by decide) (by decide) (by decide) hown, hR3h.out.grown hA3h.out (by decide) (by decide) hown, hf3h.out.trans (Fr.grown (X := fun q => q = w.heap.size + 1) hown (fun q e => by injection e with e; exact e.symm)) (fun q e => .inr (by omega))⟩
  exact (results_cell_row rfl _ _ (w.heap.size + 1) 52 (⟨65535, m 65535, true, false, false, false, false, false, true⟩ : Sp.Rec).cells (0, 0) _ rfl (rec_set9 _ _ _ _ _ _ _ _ _ hA3h.out) Tryz.underlying52 rfl (by kernel_rfl)).trans rfl
end Go.Proofs.YtkdaphkpllgmbaaGreat

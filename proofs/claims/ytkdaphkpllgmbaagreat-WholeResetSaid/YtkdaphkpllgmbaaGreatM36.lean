/-
  The processor's step.
  What the machine of the chapter's example does: two rows, of two cycles and of five.
  Runs of cycles; RESET and three cycles, as one run.
  A processor and its memory as one: what its methods make of the two.
  A cycle's cases.
  The processor's cycle.
  The machine's methods.
  What makes a processor; what asks whether one may be.
-/
import Derived.Test.YtkdaphkpllgmbaaGreatM35
import Derived.Test.YtkdaphkpllgmbaaGreatM21
import Derived.Deep.CutBlock
import Derived.Deep.RegionLaw
import Derived.Test.YtkdaphkpllgmbaaGreatM01
import Derived.Test.YtkdaphkpllgmbaaGreatM34
import Derived.StillTailTactics
import Derived.Deep.RegionHeld3
namespace Go.Proofs.YtkdaphkpllgmbaaGreat
open Go.RowKit Sp
set_option linter.unusedVariables false
set_option linter.unusedSimpArgs false
attribute [local go_sem] Sp.Latch.v Sp.Arb.v Sp.Arb.cells Sp.Pins.v Sp.Regs.v Sp.Regs.cells Sp.Bus.v Sp.Bus.cells Sp.Sign.v Sp.Sign.cells
theorem CpuIn.grown0 {B N g p : Nat} {lv : Value} {s : Cpu} {w w' : World} (h : CpuIn B N g p lv s w) (hg : w.grownBy w' none) : CpuIn B N g p lv s w' := by
  obtain ⟨n, xs, ho, hn⟩ := h.log
  exact ⟨h.blk.grown hg (by simp), h.core.grown0 hg, ⟨n, xs, ho.kept hg (by cases hv : lv.ownBlock with | none => exact .inl rfl | some k => exact .inr (by simp)), hn⟩, h.hg, h.hp⟩
theorem RamAt.grown0 {B g : Nat} {m : Nat → UInt8} {rom : Int} {pb : Nat → Option Nat} {cs : Array Value} {w w' : World} (h : RamAt B g m rom pb cs w) (hg : w.grownBy w' none) : RamAt B g m rom pb cs w' :=
  h.same_ (hg.block g h.blk.lt (by simp)) (fun i b hi e => hg.block b (h.plt_ hi e) (by simp))
theorem Read_w {B g : Nat} {m : Nat → UInt8} {rom : Int} {pb : Nat → Option Nat} {cs : Array Value} (a : UInt16) (w : World) (h : RamAt B g m rom pb cs w) : Calls Tryz.prog 16 #[.pointer (some ⟨g, 0, none⟩), .int .u16 (a.toNat : Int)] w fun e w' => e = .returned (.int .u8 ((m a.toNat).toNat : Int)) ∧ Below w.heap.size w w' := Read_a a.toNat w h a.toNat_lt
theorem Write_w {B g : Nat} {m : Nat → UInt8} {rom : Int} {pb : Nat → Option Nat} {cs : Array Value} (a : UInt16) (x : UInt8) (w : World) (h : RamAt B g m rom pb cs w) (hBw : B ≤ w.heap.size) : Calls Tryz.prog 280 #[.pointer (some ⟨g, 0, none⟩), .int .u16 (a.toNat : Int), .int .u8 (x.toNat : Int)] w fun e w' => e = .returned (.bool (decide ((a.toNat : Int) < rom))) ∧ RamStep B g (wrM m rom a x) rom pb w w' := Write_a a.toNat x w h hBw a.toNat_lt
/-- The log's block is none of the memory's pages. -/
def Sep (lv : Value) (pb : Nat → Option Nat) : Prop := ∀ i, i < 256 → ∀ k, lv.ownBlock = some k → pb i ≠ some k
theorem CpuIn.ram {B N g p gr : Nat} {lv : Value} {s : Cpu} {m : Nat → UInt8} {rom : Int} {pb : Nat → Option Nat} {cs : Array Value} {w w' : World} (h : CpuIn B N g p lv s w) (hR : RamAt B gr m rom pb cs w) (hs : Sep lv pb) (hO : OnlyRam gr pb w w') : CpuIn B N g p lv s w' := by
  have hpg : ∀ {x : Nat} {t : TypeId} {xs : Array Value}, Blk w x t xs → 91 ≠ t → 5 ≠ t → w'.heap[x]? = w.heap[x]? := fun hx h1 h2 => hO.block _ hx.lt (fun e => Blk.ne_ hR.blk hx h1 e.symm) (fun i hi e => by obtain ⟨⟨ps, hb, _⟩, _⟩ := hR.page i _ hi e; exact Blk.ne_ hb hx h2 rfl)
  obtain ⟨n, xs, ho, hn⟩ := h.log
  obtain ⟨ring, a, A, c, hk⟩ := h.core
  refine ⟨(hpg h.blk (by decide) (by decide)).trans h.blk, ⟨ring, a, A, c, (hpg hk.blk (by decide) (by decide)).trans hk.blk, hk.ring, hk.list.keep (fun x cs hx => (hpg hx (by decide) (by decide)).trans hx), hk.cap⟩, ⟨n, xs, ?_, hn⟩, h.hg, h.hp⟩
  refine ⟨ho.1, ho.2.imp id ?_⟩
  rintro ⟨k, cap, cur, h1, h2, h3, h4⟩
  exact ⟨k, cap, cur, h1, h2, (hO.block k (Blk.lt h3) (fun e => Blk.ne_ hR.blk h3 (by decide) e.symm) (fun i hi e => hs i hi k (by rw [h1]; rfl) e)).trans h3, h4⟩
theorem own_ne_blk {w : World} {B n x : Nat} {v : Value} {xs : List Value} {t : TypeId} {cs : Array Value} (h : w.ownsRow B 5 1 v n xs) (hb : Blk w x t cs) (ht : 5 ≠ t) : some x ≠ v.ownBlock := by
  intro e
  rcases own_block h hb ht with h1 | h1
  · rw [h1] at e; cases e
  · exact h1 e.symm
theorem CpuIn.logged {B N g p n : Nat} {lv v4 : Value} {s : Cpu} {xs ys : List UInt8} {w w' : World} (h : CpuIn B N g p lv s w) (ho : w.ownsRow B 5 1 lv n (bytesV xs)) (hg : w.grownBy w' lv.ownBlock) (h4 : w'.ownsRow B 5 1 v4 (n + 1) (bytesV ys)) (hn : n ≤ N) : CpuIn B (N + 1) g p v4 s (w'.setCell ⟨g, 8, none⟩ v4) := by
  obtain ⟨ring, a, A, c, hk⟩ := h.core
  have hb := h.blk.grown hg (own_ne_blk ho h.blk (by decide))
  have hk2 : CoreAt p s.core w' := ⟨ring, a, A, c, hk.blk.grown hg (own_ne_blk ho hk.blk (by decide)), hk.ring, hk.list.keep (fun x cs hx => hx.grown hg (own_ne_blk ho hx (by decide))), hk.cap⟩
  exact ⟨hb.set_ 8 v4, hk2.far hb (by decide) (by decide) 8 v4, ⟨n + 1, ys, h4.kept (grown_set w' (World.grownBy.refl w' (some g)) 8 v4) (own_block h4 hb (by decide)), by omega⟩, h.hg, h.hp⟩
theorem RamAt.logged {B gr n : Nat} {lv : Value} {m : Nat → UInt8} {rom : Int} {pb : Nat → Option Nat} {cs : Array Value} {xs : List Value} {w w' : World} (h : RamAt B gr m rom pb cs w) (ho : w.ownsRow B 5 1 lv n xs) (hs : Sep lv pb) (hg : w.grownBy w' lv.ownBlock) : RamAt B gr m rom pb cs w' :=
  h.same_ (hg.block gr h.blk.lt (own_ne_blk ho h.blk (by decide))) (fun i b hi e => hg.block b (h.plt_ hi e) (fun e2 => hs i hi b e2.symm e))
theorem ent41 {e : Ent} (h : entOk e = true) (ho : e.op = 41) : e.mode = 1 := by
  simp only [entOk, Bool.and_eq_true, Bool.or_eq_true, decide_eq_true_eq] at h
  rcases h.1.2 with h | h
  · exact absurd ho h
  · exact h
theorem tick_any {p : Nat} {s : Core} (b : UInt8) (w : World) (hC : CoreAt p s w) (hI : s.Inv) :
    Calls Tryz.prog 73 #[.pointer (some ⟨p, 0, none⟩), .int .u8 (b.toNat : Int)] w fun e w' => e = .returned (.tuple #[(s.tick b).2.1.v, .bool (s.tick b).2.2]) ∧ CoreAt p (s.tick b).1 w' ∧ w.grownBy w' (some p) := by
  cases hq : s.q with
  | nil =>
    rw [show s.tick b = (s, ⟨false, false, 0, false⟩, false) from by unfold Core.tick; rw [hq]]
    exact tick_nil b w hC hq
  | cons t q =>
    obtain ⟨k, z⟩ := t
    have h2 : (s.tick b).2.2 = true := by
      unfold Core.tick; rw [hq]; dsimp only
      cases (({ s with q := q } : Core).do_ ⟨k, z⟩ b).q <;> rfl
    rw [h2]
    exact tick_cons b k z q w hC hq (ent41 hI.ent) (fun h => hI.list hq h)
theorem RamAt.drew_ {B g : Nat} {m : Nat → UInt8} {rom : Int} {pb : Nat → Option Nat} {cs : Array Value} {w : World} (h : RamAt B g m rom pb cs w) : RamAt B g m rom pb cs w.drew := h.below (Below.refl _ _).drew
theorem RamAt.alloc_ {B g : Nat} {m : Nat → UInt8} {rom : Int} {pb : Nat → Option Nat} {cs : Array Value} {w : World} (h : RamAt B g m rom pb cs w) (o : Obj) : RamAt B g m rom pb cs (w.alloc o) := h.below (below_alloc (Below.refl _ _) _)
theorem Fr.drew_ {X : Nat → Prop} {w w' : World} (h : Fr X w w') : Fr X w w'.drew := ⟨h.os, h.tape, h.output, h.size, h.block⟩
theorem Fr.alloc_ {X : Nat → Prop} {w w' : World} (h : Fr X w w') (o : Obj) : Fr X w (w'.alloc o) := h.trans (Fr.grown (X := fun _ => False) (grown_of_below (below_alloc (Below.refl _ _) o) none) (by simp)) (fun q e => e.elim)
theorem tick_beside {B N g p gr : Nat} {lv : Value} {s : Cpu} {m : Nat → UInt8} {rom : Int} {pb : Nat → Option Nat} {cs : Array Value} {X : Nat → Prop} {w V wE : World} (hC : CpuIn B N g p lv s V) (hR : RamAt B gr m rom pb cs V) (hF : Fr X w V) (hg : V.grownBy wE (some p)) (hX : X p) : RamAt B gr m rom pb cs wE ∧ Fr X w wE := by
  obtain ⟨_, hp⟩ := hC.cblk
  exact ⟨hR.grown hp (by decide) (by decide) hg, hF.trans (Fr.grown (X := fun q => q = p) hg (fun q e => by injection e with e; exact e.symm)) (fun q e => .inl (e ▸ hX))⟩
def XS (g p gr : Nat) (pb : Nat → Option Nat) (lv : Value) (q : Nat) : Prop := q = g ∨ q = p ∨ q = gr ∨ (∃ i, i < 256 ∧ pb i = some q) ∨ lv.ownBlock = some q
def StepTo (B N g p gr : Nat) (lv : Value) (pb : Nat → Option Nat) (c : Cpu) (m : Mem) (rom : Int) (w w' : World) : Prop :=
  ∃ lv' pb' cs', CpuIn B N g p lv' c w' ∧ RamAt B gr m rom pb' cs' w' ∧ Sep lv' pb' ∧ Fr (XS g p gr pb lv) w w'
theorem step_eq {s : Cpu} {m : Mem} {rom : Int} {ad : UInt16} {da d : UInt8} {rd bs bz ok l1 l2 l4 tk : Bool} {l3 : Int} {k5 : Core} (hX : s.core.want = (⟨ad, da, rd, bs, bz⟩, ok)) (hD : (if rd = true then m ad.toNat else da) = d) (hT : s.core.tick d = (k5, ⟨l1, l2, l3, l4⟩, tk)) :
    s.step m rom = (⟨ad, d, rd, false, bs, l1, l2, bz, true⟩, (if l3 = 1 then ({ s with core := k5, latch := if l4 = true then { s.latch with armed := true } else s.latch } : Cpu).over 0 else if l3 = 2 then ({ s with core := k5, latch := if l4 = true then { s.latch with armed := true } else s.latch } : Cpu).over 2 else if l3 = 3 then ({ s with core := k5, latch := if l4 = true then { s.latch with armed := true } else s.latch } : Cpu).over 3 else { s with core := k5, latch := if l4 = true then { s.latch with armed := true } else s.latch }), if rd = true then m else wrM m rom ad da) := by
  unfold Cpu.step
  simp only [hX, hD, hT]
set_option maxRecDepth 100000 in
set_option maxHeartbeats 20000000 in
theorem cpu_step {B N g p gr : Nat} {lv : Value} {s : Cpu} {m : Nat → UInt8} {rom : Int} {pb : Nat → Option Nat} {cs : Array Value}  (w : World) (hC : CpuIn B N g p lv s w) (hR : RamAt B gr m rom pb cs w) (hI : s.core.Inv) (hBw : B ≤ w.heap.size) (hN : N ≤ 1000000) (hsep : Sep lv pb) :
    Calls Tryz.prog 49 #[.pointer (some ⟨g, 0, none⟩), .iface 61 (.pointer (some ⟨gr, 0, none⟩))] w fun e w' => e = .returned (s.step m rom).1.v ∧ StepTo B (N + 1) g p gr lv pb (s.step m rom).2.1 (s.step m rom).2.2 rom w w' := by
  have hC0 := hC.alloc (.cells #[.int .u16 0, .int .u8 0, .bool false, .bool false, .bool false, .bool false, .bool false, .bool false, .bool false] 52)
  have hb0 : Below w.heap.size w (w.alloc (.cells #[.int .u16 0, .int .u8 0, .bool false, .bool false, .bool false, .bool false, .bool false, .bool false, .bool false] 52)) := below_alloc (Below.refl _ _) _
  have hR0 := hR.below hb0
  have hA : LBlk (w.alloc (.cells #[.int .u16 0, .int .u8 0, .bool false, .bool false, .bool false, .bool false, .bool false, .bool false, .bool false] 52)) w.heap.size 52 [.int .u16 0, .int .u8 0, .bool false, .bool false, .bool false, .bool false, .bool false, .bool false, .bool false] := Blk.newAt w 52 _ w.heap.size rfl
  have hltw := hC.lt
  obtain ⟨n0, xs0, ho0, _⟩ := hC.log
  have hlvlt : ∀ k, lv.ownBlock = some k → k < w.heap.size := fun k hk => (ho0.lt k hk).2
  clear ho0
  have HWT := Lib.hid (want_t _ hC0.core (fun z q hq => hI.list hq (.inl rfl)))
  obtain ⟨⟨⟨ad, da, rd, bs, bz⟩, ok⟩, hX⟩ : ∃ X, s.core.want = X := ⟨_, rfl⟩
  rw [hX] at HWT
  have HX := Lib.hid hX
  have F := cpu_facts hC0
  have hlt := hC0.lt
  clear hC hR hX
  go_enter Tryz.func49, Tryz.ntmps49
  go_wp2_with fail
  generalize w.alloc (.cells #[.int .u16 0, .int .u8 0, .bool false, .bool false, .bool false, .bool false, .bool false, .bool false, .bool false] 52) = w0 at *
  refine HWT.out.mono ?_
  rintro e w1 ⟨rfl, hg1⟩
  have hC1 := hC0.grown0 hg1
  have hR1 := hR0.grown0 hg1
  have hA1 := hA.grown hg1 (by simp)
  have hs1 := hg1.size
  have hs0 := hA.lt
  have F1 := cpu_facts hC1
  have hlt1 := hC1.lt
  clear F hC0 hR0 hA
  go_upto_if 30 with fail
  have hC2 := (hC1.alloc (.cells #[.int .u16 (ad.toNat : Int), .int .u8 (da.toNat : Int), .bool rd, .bool bs, .bool bz] 140)).alloc (.cells #[.int .u16 (ad.toNat : Int), .int .u8 (da.toNat : Int), .bool rd, .bool false, .bool bs, .bool false, .bool false, .bool bz, .bool true] 52)
  have hb2 : Below w1.heap.size w1 ((w1.alloc (.cells #[.int .u16 (ad.toNat : Int), .int .u8 (da.toNat : Int), .bool rd, .bool bs, .bool bz] 140)).alloc (.cells #[.int .u16 (ad.toNat : Int), .int .u8 (da.toNat : Int), .bool rd, .bool false, .bool bs, .bool false, .bool false, .bool bz, .bool true] 52)) := below_alloc (below_alloc (Below.refl _ _) _) _
  have hR2 := hR1.below hb2
  have hA2 := hA1.below hb2 hA1.lt
  have hB2 : LBlk ((w1.alloc (.cells #[.int .u16 (ad.toNat : Int), .int .u8 (da.toNat : Int), .bool rd, .bool bs, .bool bz] 140)).alloc (.cells #[.int .u16 (ad.toNat : Int), .int .u8 (da.toNat : Int), .bool rd, .bool false, .bool bs, .bool false, .bool false, .bool bz, .bool true] 52)) (w1.heap.size + 1) 52 [.int .u16 (ad.toNat : Int), .int .u8 (da.toNat : Int), .bool rd, .bool false, .bool bs, .bool false, .bool false, .bool bz, .bool true] := Blk.newAt (w1.alloc (.cells #[.int .u16 (ad.toNat : Int), .int .u8 (da.toNat : Int), .bool rd, .bool bs, .bool bz] 140)) 52 _ (w1.heap.size + 1) (by simp)
  have hU2 := Blk.alloc (Blk.newAt w1 140 #[.int .u16 (ad.toNat : Int), .int .u8 (da.toNat : Int), .bool rd, .bool bs, .bool bz] w1.heap.size rfl) (.cells #[.int .u16 (ad.toNat : Int), .int .u8 (da.toNat : Int), .bool rd, .bool false, .bool bs, .bool false, .bool false, .bool bz, .bool true] 52)
  have hs2 : ((w1.alloc (.cells #[.int .u16 (ad.toNat : Int), .int .u8 (da.toNat : Int), .bool rd, .bool bs, .bool bz] 140)).alloc (.cells #[.int .u16 (ad.toNat : Int), .int .u8 (da.toNat : Int), .bool rd, .bool false, .bool bs, .bool false, .bool false, .bool bz, .bool true] 52)).heap.size = w1.heap.size + 2 := by simp
  have hf2 : Fr (XS g p gr pb lv) w ((w1.alloc (.cells #[.int .u16 (ad.toNat : Int), .int .u8 (da.toNat : Int), .bool rd, .bool bs, .bool bz] 140)).alloc (.cells #[.int .u16 (ad.toNat : Int), .int .u8 (da.toNat : Int), .bool rd, .bool false, .bool bs, .bool false, .bool false, .bool bz, .bool true] 52)) := Fr.grown (grown_then (grown_then (grown_of_below hb0 none) hg1) (grown_of_below hb2 none)) (by simp)
  have HSEP := Lib.hid hsep
  have HI := Lib.hid hI
  clear F1 hC1 hR1 hA1 hb2 hg1 hb0 hsep hI
  generalize ((w1.alloc (.cells #[.int .u16 (ad.toNat : Int), .int .u8 (da.toNat : Int), .bool rd, .bool bs, .bool bz] 140)).alloc (.cells #[.int .u16 (ad.toNat : Int), .int .u8 (da.toNat : Int), .bool rd, .bool false, .bool bs, .bool false, .bool false, .bool bz, .bool true] 52)) = w2 at *
  go_cut [] from 10 (fun wx => ∃ pb2 cs2, LBlk wx (w1.heap.size + 1) 52 [.int .u16 (ad.toNat : Int), .int .u8 ((if rd then m ad.toNat else da).toNat : Int), .bool rd, .bool false, .bool bs, .bool false, .bool false, .bool bz, .bool true] ∧ LBlk wx w.heap.size 52 [.int .u16 0, .int .u8 0, .bool false, .bool false, .bool false, .bool false, .bool false, .bool false, .bool false] ∧ CpuIn B N g p lv s wx ∧ RamAt B gr (if rd then m else wrM m rom ad da) rom pb2 cs2 wx ∧ (∀ i b, i < 256 → pb2 i = some b → pb i = some b ∨ w.heap.size ≤ b) ∧ Fr (XS g p gr pb lv) w wx ∧ w1.heap.size + 2 ≤ wx.heap.size)
  case first =>
    have u0 := hU2.cell 0
    have u1 := hU2.cell 1
    simp only [List.getElem?_toArray, List.getElem?_cons_zero, List.getElem?_cons_succ] at u0 u1
    have hlu := hU2.lt
    cases rd
    · have HM := mth_write ⟨gr, 0, none⟩
      go_wp2_with fail
      refine (Write_w ad da _ hR2 (by omega)).mono ?_
      rintro e w3 ⟨rfl, hS⟩
      obtain ⟨⟨pb2, cs2, hR3, hpb⟩, hO, hbl⟩ := hS
      have hnoR : ∀ {x : Nat} {l : List Value}, LBlk w2 x 52 l → LBlk w3 x 52 l := fun hx => (hO.block _ (LBlk.lt hx) (fun e => Blk.ne_ hR2.blk hx (by decide) e.symm) (fun i hi e => by obtain ⟨⟨ps, hb, _⟩, _⟩ := hR2.page i _ hi e; exact Blk.ne_ hb hx (by decide) rfl)).trans hx
      have hC3 := hC2.ram hR2 HSEP.out hO
      have hsz := hO.size
      go_wp2_with fail
      go_meet
      case rel =>
        refine ⟨pb2, cs2, hnoR hB2, hnoR hA2, hC3, hR3, fun i b hi e => (hpb i b hi e).imp id (fun h => by omega), hf2.trans (Y := fun q => q = gr ∨ ∃ i, i < 256 ∧ pb i = some q) ⟨hO.os, hO.tape, hO.output, hO.size, fun q hq hn => hO.block q hq (fun e => hn (.inl e)) (fun i hi e => hn (.inr ⟨i, hi, e⟩))⟩ (fun q e => .inl (.inr (.inr (e.imp id .inl)))), by omega⟩
    · have HM := mth_read ⟨gr, 0, none⟩
      go_wp2_with fail
      refine (Read_w ad _ hR2).mono ?_
      rintro e w3 ⟨rfl, hb3⟩
      have hC3 := hC2.below hb3
      have hR3 := hR2.below hb3
      have hB3 := LBlk.below hB2 hb3 (LBlk.lt hB2)
      have hA3 := LBlk.below hA2 hb3 (LBlk.lt hA2)
      have r1 := LBlk.cell hB3 1
      simp only [List.getElem?_cons_zero, List.getElem?_cons_succ] at r1
      have fr1 := LBlk.frozen hB3 1
      have hlb := LBlk.lt hB3
      have hsz := hb3.size
      go_wp2_with fail
      go_meet
      case rel =>
        have hst := grown_set w3 (World.grownBy.refl w3 (some (w1.heap.size + 1))) 1 (.int .u8 ((m ad.toNat).toNat : Int))
        refine ⟨pb, cs, hB3.set_ 1 _, LBlk.far hA3 (p := ⟨w1.heap.size + 1, 1, none⟩) (by show w.heap.size ≠ w1.heap.size + 1; omega) _, hC3.other hB3 (by decide) (by decide) (by decide) (by decide) hst, hR3.grown hB3 (by decide) (by decide) hst, fun i b hi e => .inl e, (hf2.trans (Fr.grown (X := fun _ => False) (grown_of_below hb3 none) (by simp)) (fun q e => e.elim)).trans (Fr.grown (X := fun q => q = w1.heap.size + 1) hst (fun q e => by injection e with e; exact e.symm)) (fun q e => .inr (by omega)), by simp; omega⟩
  case rest =>
    obtain ⟨pb2, cs2, hB3, hA3, hC3, hR3, hpb, hf3, hsz3⟩ := hcut
    obtain ⟨n, xs, ho, hn⟩ := hC3.log
    have hsep2 : Sep lv pb2 := fun i hi k hk e => (hpb i k hi e).elim (fun h => HSEP.out i hi k hk h) (fun h => absurd (hlvlt k hk) (Nat.not_lt.2 h))
    have hC3h := Lib.hid hC3
    have F3 := cpu_facts hC3
    have hlt3 := hC3.lt
    clear hC2 hR2 hA2 hB2 hU2 hf2 hC3
    obtain ⟨d, hd⟩ : ∃ d, (if rd then m ad.toNat else da) = d := ⟨_, rfl⟩
    rw [hd] at hB3
    have HD := Lib.hid hd
    clear hd
    have r1 := LBlk.cell hB3 1
    simp only [List.getElem?_cons_zero, List.getElem?_cons_succ] at r1
    obtain ⟨i0, hi, hz0, hz1, hz2⟩ := info_parts info_u8
    have hownd : (wc.drew.alloc (.cells #[.int .u8 (d.toNat : Int)] 5)).ownsRow B 5 1 lv n (bytesV xs) := World.ownsRow.alloc (w := wc.drew) ho _
    have hnew : Reads (wc.drew.alloc (.cells #[.int .u8 (d.toNat : Int)] 5)) (wc.heap.size + 1) 1 (some ⟨wc.heap.size, 0, none⟩) 1 (bytesV [d]) := by
      have := Blk.reads_ (Blk.newAt wc.drew 5 #[.int .u8 (d.toNat : Int)] wc.heap.size rfl) 1 1 rfl
      simpa [bytesV] using this
    have hBs : B ≤ (wc.drew.alloc (.cells #[.int .u8 (d.toNat : Int)] 5)).heap.size := by simp; omega
    go_upto_region 6 with fail
    go_cut [] from 10 (fun wx => ∃ v4, LBlk wx (w1.heap.size + 1) 52 [.int .u16 (ad.toNat : Int), .int .u8 (d.toNat : Int), .bool rd, .bool false, .bool bs, .bool false, .bool false, .bool bz, .bool true] ∧ LBlk wx w.heap.size 52 [.int .u16 0, .int .u8 0, .bool false, .bool false, .bool false, .bool false, .bool false, .bool false, .bool false] ∧ CpuIn B (N + 1) g p v4 s wx ∧ RamAt B gr (if rd then m else wrM m rom ad da) rom pb2 cs2 wx ∧ Sep v4 pb2 ∧ Fr (XS g p gr pb lv) w wx ∧ w1.heap.size + 2 ≤ wx.heap.size)
    case first =>
      go_region_law (refine step_append_any _ rfl (.tmp 46) (.tmp 49) 24 rfl B 5 i0 (.int .u8 0) 1 1 Tryz.underlying24 hi hz0 hz1 hz2 rfl (by omega) lv n (bytesV xs) (by simp [Act.eval]) hownd (wc.heap.size + 1) (some ⟨wc.heap.size, 0, none⟩) 1 1 (bytesV [d]) (by simp [Act.eval]) hnew (by simp [bytesV, Value.oneCell']) (by simp only [maxLen]; omega) (by omega) hBs ?_; intro v4 W4 hown4 hg4 hat4; obtain ⟨A4, c4, rfl, _, _, _⟩ := own_reads hown4; have hb4 := ((hC3h.out.below_drew.alloc (.cells #[.int .u8 (d.toNat : Int)] 5)).blk).grown hg4 (own_ne_blk hownd ((hC3h.out.below_drew.alloc (.cells #[.int .u8 (d.toNat : Int)] 5)).blk) (by decide)); have d8 := LBlk.cell hb4 8; simp only [cpuL, List.getElem?_cons_zero, List.getElem?_cons_succ] at d8; have f8 := LBlk.frozen hb4 8)
      all_goals
        go_wp2_with fail
        go_meet
        case rel =>
          have hBx := (LBlk.alloc (LBlk.drew hB3) (.cells #[.int .u8 (d.toNat : Int)] 5)).grown hg4 (own_ne_blk hownd (LBlk.alloc (LBlk.drew hB3) (.cells #[.int .u8 (d.toNat : Int)] 5)) (by decide))
          have hAx := (LBlk.alloc (LBlk.drew hA3) (.cells #[.int .u8 (d.toNat : Int)] 5)).grown hg4 (own_ne_blk hownd (LBlk.alloc (LBlk.drew hA3) (.cells #[.int .u8 (d.toNat : Int)] 5)) (by decide))
          have hgB := Blk.ne_ hBx hb4 (by decide)
          have hgA := Blk.ne_ hAx hb4 (by decide)
          have hR4 := ((hR3.below (Below.refl _ _).drew).below (below_alloc (Below.refl _ _) (.cells #[.int .u8 (d.toNat : Int)] 5))).logged hownd hsep2 hg4
          have hst := grown_set W4 (World.grownBy.refl W4 (some g)) 8 (.slice A4 (n + 1) c4)
          have hz := hg4.size
          have hz3 := hf3.size
          refine ⟨_, LBlk.far hBx (p := ⟨g, 8, none⟩) hgB _, LBlk.far hAx (p := ⟨g, 8, none⟩) hgA _, CpuIn.logged (ys := xs ++ [d]) (hC3h.out.below_drew.alloc _) hownd hg4 (by simpa [bytesV] using hown4) hn, hR4.grown hb4 (by decide) (by decide) hst, fun i hi k hk e => ?_, ?_, ?_⟩
          · rcases hat4 with h | h
            · exact hsep2 i hi k (h ▸ hk) e
            · have hlk := hR3.plt_ hi e
              rw [h] at hk; injection hk with hk; simp at hk; omega
          · refine ((hf3.trans (Fr.grown (X := fun _ => False) (grown_of_below (below_alloc (Below.refl _ _).drew (.cells #[.int .u8 (d.toNat : Int)] 5)) none) (by simp)) (fun q e => e.elim)).trans (Fr.grown (X := fun q => lv.ownBlock = some q) hg4 (fun q e => e)) (fun q e => .inl (.inr (.inr (.inr (.inr e)))))).trans (Fr.grown (X := fun q => q = g) hst (fun q e => by injection e with e; exact e.symm)) (fun q e => .inl (.inl e))
          · simp at hz ⊢; omega
    case rest =>
      obtain ⟨v4, hB4, hA4, hC4, hR4, hv4, hf4, hsz4⟩ := hcut
      clear F3 hC3h r1 hownd hnew hBs
      have HT := Lib.hid (fun (W : World) (h : CoreAt p s.core W) => tick_any d W h HI.out)
      obtain ⟨⟨k5, ⟨l1, l2, l3, l4⟩, tk⟩, hTk⟩ : ∃ T, s.core.tick d = T := ⟨_, rfl⟩
      rw [hTk] at HT
      have HTK := Lib.hid hTk
      have F4 := cpu_facts hC4
      have hlt4 := hC4.lt
      have hltp4 := hC4.ltp
      have r1 := LBlk.cell hB4 1
      simp only [List.getElem?_cons_zero, List.getElem?_cons_succ] at r1
      have hC4h := Lib.hid hC4
      have hB4h := Lib.hid hB4
      have hA4h := Lib.hid hA4
      clear hTk hC4 hB4 hA4
      obtain ⟨_, hpb0⟩ := hC4h.out.cblk
      have hnp1 : some (w1.heap.size + 1) ≠ some p := fun e => Blk.ne_ hB4h.out hpb0 (by decide) (by injection e)
      have hnp2 : some w.heap.size ≠ some p := fun e => Blk.ne_ hA4h.out hpb0 (by decide) (by injection e)
      go_upto_region 7 with fail
      have hBz := Lib.hid (Blk.newAt wc 144 #[.bool false, .bool false, .int .i64 0, .bool false] wc.heap.size rfl)
      have hzl : wc.heap.size < (wc.alloc (.cells #[.bool false, .bool false, .int .i64 0, .bool false] 144)).drew.heap.size := hBz.out.lt
      have hne1 : g ≠ wc.heap.size := by omega
      have hne2 : wc.heap.size ≠ g := by omega
      have hXp : XS g p gr pb lv p := .inr (.inl rfl)
      have hnp3 : some wc.heap.size ≠ some p := fun e => by injection e with e; omega
      have hne3 : w1.heap.size + 1 ≠ wc.heap.size := by omega
      have hne4 : wc.heap.size ≠ w1.heap.size + 1 := by omega
      go_cut [8, 9] from 10 (fun s8 s9 wx => ∃ h, s8 = .pointer (some ⟨h, 0, none⟩) ∧ s9 = .bool tk ∧ LBlk wx h 144 [.bool l1, .bool l2, .int .i64 l3, .bool l4] ∧ LBlk wx (w1.heap.size + 1) 52 [.int .u16 (ad.toNat : Int), .int .u8 (d.toNat : Int), .bool rd, .bool false, .bool bs, .bool false, .bool false, .bool bz, .bool true] ∧ LBlk wx w.heap.size 52 [.int .u16 0, .int .u8 0, .bool false, .bool false, .bool false, .bool false, .bool false, .bool false, .bool false] ∧ CpuIn B (N + 1) g p v4 { s with core := k5 } wx ∧ RamAt B gr (if rd then m else wrM m rom ad da) rom pb2 cs2 wx ∧ Fr (XS g p gr pb lv) w wx)
      case first =>
        go_region_held3 (fun W => W.cell? ⟨g, 18, none⟩ = some (.pointer (some ⟨p, 0, none⟩)) ∧ W.cell? ⟨w1.heap.size + 1, 1, none⟩ = some (.int .u8 (d.toNat : Int))) (first | with_reducible exact ⟨y3, y4⟩ | (simp only [World.cell?_setCell_far, hne1, hne2, hne3, hne4, ne_eq, not_false_eq_true, y3, y4, and_self]; done) | (go_keep; done) | assumption) (first | (go_at_call 73; refine (HT.out _ (CpuIn.core (B := B) (N := N + 1) (g := g) (lv := v4) (s := s) (by (repeat (with_reducible first | exact hC4h.out | apply CpuIn.below_drew | apply CpuIn.alloc))))).mono ?_; rintro e wE ⟨rfl, hKE, hgE⟩; have hCE : CpuIn B (N + 1) g p v4 { s with core := k5 } wE := CpuIn.grown (by (repeat (with_reducible first | exact hC4h.out | apply CpuIn.below_drew | apply CpuIn.alloc))) hgE hKE; have hBE : LBlk wE (w1.heap.size + 1) 52 _ := LBlk.grown (by (repeat (with_reducible first | exact hB4h.out | apply LBlk.drew | apply LBlk.alloc))) hgE hnp1; have hAE : LBlk wE w.heap.size 52 _ := LBlk.grown (by (repeat (with_reducible first | exact hA4h.out | apply LBlk.drew | apply LBlk.alloc))) hgE hnp2; have hRF := tick_beside (B := B) (N := N + 1) (g := g) (lv := v4) (s := s) (by (repeat (with_reducible first | exact hC4h.out | apply CpuIn.below_drew | apply CpuIn.alloc))) (by (repeat (with_reducible first | exact hR4 | apply RamAt.drew_ | apply RamAt.alloc_))) (by (repeat (with_reducible first | exact hf4 | apply Fr.drew_ | apply Fr.alloc_))) hgE hXp; have y3 := hCE.blk.cell 18; have y4 := LBlk.cell hBE 1; simp only [cpuL, List.getElem?_cons_zero, List.getElem?_cons_succ] at y3 y4; first | (have hBy : Blk wE wc.heap.size 144 #[.bool false, .bool false, .int .i64 0, .bool false] := (by with_reducible exact Blk.grown (hBz.out.drew) hgE hnp3); have y6 := hBy.cell 0; have y7 := hBy.cell 1; have y8 := hBy.cell 2; have y9 := hBy.cell 3; simp only [List.getElem?_toArray, List.getElem?_cons_zero, List.getElem?_cons_succ] at y6 y7 y8 y9; have f6 := hBy.frozen 0; have f7 := hBy.frozen 1; have f8 := hBy.frozen 2; have f9 := hBy.frozen 3) | skip))
        all_goals
          go_wp2_with fail
          go_meet
          case rel =>
            first
            | (have h0 : LBlk wE wc.heap.size 144 [.bool false, .bool false, .int .i64 0, .bool false] := hBy
               have hst : wE.grownBy _ (some wc.heap.size) := grown_set wE (grown_set wE (grown_set wE (grown_set wE (World.grownBy.refl wE _) 0 (.bool l1)) 1 (.bool l2)) 2 (.int .i64 l3)) 3 (.bool l4)
               have hwz := hf4.size
               exact ⟨wc.heap.size, rfl, rfl, LBlk.set4 h0 _ _ _ _, hBE.grown hst (fun e => hne3 (by injection e)), hAE.grown hst (fun e => by injection e with e; omega), hCE.other h0 (by decide) (by decide) (by decide) (by decide) hst, hRF.1.grown h0 (by decide) (by decide) hst, hRF.2.trans (Fr.grown (X := fun q => q = wc.heap.size) hst (fun q e => by injection e with e; exact e.symm)) (fun q e => .inr (by omega))⟩)
            | exact ⟨wE.heap.size, rfl, rfl, Blk.newAt _ _ _ _ (by simp), LBlk.alloc hBE _, LBlk.alloc hAE _, hCE.alloc _, hRF.1.alloc_ _, hRF.2.alloc_ _⟩
      case rest =>
        obtain ⟨h5, rfl, rfl, hS5, hB5, hA5, hC5, hR5, hf5⟩ := hcut
        have t0 := LBlk.cell hS5 0
        have t1 := LBlk.cell hS5 1
        have t2 := LBlk.cell hS5 2
        have t3 := LBlk.cell hS5 3
        have r5 := LBlk.cell hB5 5
        have r6 := LBlk.cell hB5 6
        have fr5 := LBlk.frozen hB5 5
        have fr6 := LBlk.frozen hB5 6
        simp only [List.getElem?_cons_zero, List.getElem?_cons_succ] at t0 t1 t2 t3 r5 r6
        have hlS := LBlk.lt hS5
        have hlB := LBlk.lt hB5
        have hnS : h5 ≠ w1.heap.size + 1 := Blk.ne_ hS5 hB5 (by decide)
        have hnS2 : w1.heap.size + 1 ≠ h5 := fun e => hnS e.symm
        clear F4 hC4h hB4h hA4h r1 hR4 hf4
        go_upto_region 8 with fail
        go_region
        all_goals
          have hst := grown_set wc (grown_set wc (World.grownBy.refl wc (some (w1.heap.size + 1))) 5 (.bool l1)) 6 (.bool l2)
          have hB6 : LBlk _ (w1.heap.size + 1) 52 [.int .u16 (ad.toNat : Int), .int .u8 (d.toNat : Int), .bool rd, .bool false, .bool bs, .bool l1, .bool l2, .bool bz, .bool true] := LBlk.drew ((hB5.set_ 5 (.bool l1)).set_ 6 (.bool l2))
          have hA6 := LBlk.drew (LBlk.grown hA5 hst (fun e => by injection e with e; omega))
          have hS6 := LBlk.drew (LBlk.grown hS5 hst (fun e => hnS (by injection e)))
          have hC6 := (hC5.other hB5 (by decide) (by decide) (by decide) (by decide) hst).below_drew
          have hR6 := (hR5.grown hB5 (by decide) (by decide) hst).drew_
          have hf6 := (hf5.trans (Fr.grown (X := fun q => q = w1.heap.size + 1) hst (fun q e => by injection e with e; exact e.symm)) (fun q e => .inr (by omega))).drew_
          clear hB5 hA5 hS5 hC5 hR5 hf5 t0 t1 t2 t3 r5 r6 fr5 fr6 hst
          generalize (((wc.setCell ⟨w1.heap.size + 1, 5, none⟩ (.bool l1)).setCell ⟨w1.heap.size + 1, 6, none⟩ (.bool l2)).drew) = w6 at *
          have t2 := LBlk.cell hS6 2
          have t3 := LBlk.cell hS6 3
          simp only [List.getElem?_cons_zero, List.getElem?_cons_succ] at t2 t3
          have hlS6 := LBlk.lt hS6
          go_upto_if 70 with fail
          go_cut [] from 11 (fun wx => LBlk wx h5 144 [.bool l1, .bool l2, .int .i64 l3, .bool l4] ∧ LBlk wx (w1.heap.size + 1) 52 [.int .u16 (ad.toNat : Int), .int .u8 (d.toNat : Int), .bool rd, .bool false, .bool bs, .bool l1, .bool l2, .bool bz, .bool true] ∧ LBlk wx w.heap.size 52 [.int .u16 0, .int .u8 0, .bool false, .bool false, .bool false, .bool false, .bool false, .bool false, .bool false] ∧ CpuIn B (N + 1) g p v4 { s with core := k5, latch := if l4 = true then { s.latch with armed := true } else s.latch } wx ∧ RamAt B gr (if rd then m else wrM m rom ad da) rom pb2 cs2 wx ∧ Fr (XS g p gr pb lv) w wx)
          case first =>
            cases l4
            · go_wp2_with fail
              go_meet
              case rel => exact ⟨hS6, hB6, hA6, hC6, hR6, hf6⟩
            · have F6 := cpu_facts hC6
              have hlt6 := hC6.lt
              go_wp2_with fail
              refine (arm_t s.latch _).mono ?_
              rintro e wE ⟨rfl, hbE⟩
              have hC7 := hC6.below hbE
              have hR7 := hR6.below hbE
              have hB7 := LBlk.below hB6 hbE (LBlk.lt hB6)
              have hA7 := LBlk.below hA6 hbE (LBlk.lt hA6)
              have hS7 := LBlk.below hS6 hbE (LBlk.lt hS6)
              have hf7 := hf6.trans (Fr.grown (X := fun _ => False) (grown_of_below hbE none) (by simp)) (fun q e => e.elim)
              have F7 := cpu_facts hC7
              have hlt7 := hC7.lt
              clear F6 hC6 hR6 hB6 hA6 hS6 hf6
              go_wp2_with fail
              go_meet
              case rel =>
                have hst := grown_set wE (grown_set wE (grown_set wE (World.grownBy.refl wE (some g)) 0 (.bool s.latch.level)) 1 (.bool true)) 2 (.bool s.latch.set)
                have hgb := hC7.blk
                have hgl := hC7.hg
                refine ⟨LBlk.grown hS7 hst (fun e => Blk.ne_ hS7 hgb (by decide) (by injection e)), LBlk.grown hB7 hst (fun e => Blk.ne_ hB7 hgb (by decide) (by injection e)), LBlk.grown hA7 hst (fun e => Blk.ne_ hA7 hgb (by decide) (by injection e)), ?_, hR7.grown hgb (by decide) (by decide) hst, hf7.trans (Fr.grown (X := fun q => q = g) hst (fun q e => by injection e with e; exact e.symm)) (fun q e => .inl (.inl e))⟩
                exact ((hC7.set_level s.latch.level).set_armed true).set_set s.latch.set
          case rest =>
            obtain ⟨hS7, hB7, hA7, hC7, hR7, hf7⟩ := hcut
            clear hB6 hA6 hS6 hC6 hR6 hf6 t2 t3
            obtain ⟨s7, hs7⟩ : ∃ c : Cpu, ({ s with core := k5, latch := if l4 = true then { s.latch with armed := true } else s.latch } : Cpu) = c := ⟨_, rfl⟩
            rw [hs7] at hC7
            have HS7 := Lib.hid hs7
            clear hs7
            have t2 := LBlk.cell hS7 2
            simp only [List.getElem?_cons_zero, List.getElem?_cons_succ] at t2
            have hlS7 := LBlk.lt hS7
            go_upto_block 0 with fail
            go_cut [] from 18 (fun wx => ∃ v5, LBlk wx (w1.heap.size + 1) 52 [.int .u16 (ad.toNat : Int), .int .u8 (d.toNat : Int), .bool rd, .bool false, .bool bs, .bool l1, .bool l2, .bool bz, .bool true] ∧ LBlk wx w.heap.size 52 [.int .u16 0, .int .u8 0, .bool false, .bool false, .bool false, .bool false, .bool false, .bool false, .bool false] ∧ CpuIn B (N + 1) g p v5 (if l3 = 1 then s7.over 0 else if l3 = 2 then s7.over 2 else if l3 = 3 then s7.over 3 else s7) wx ∧ RamAt B gr (if rd then m else wrM m rom ad da) rom pb2 cs2 wx ∧ Fr (XS g p gr pb lv) w wx ∧ (v5 = v4 ∨ v5 = .slice none 0 0))
            case first =>
              by_cases e1 : l3 = 1
              · subst e1
                go_wp2_with fail
                refine (cpu_over (m := 0) _ hC7).mono ?_
                rintro e wE ⟨rfl, hC8, hgE⟩
                have hgb := hC7.blk
                have hR8 := hR7.grown hgb (by decide) (by decide) hgE
                have hB8 := LBlk.grown hB7 hgE (fun e => Blk.ne_ hB7 hgb (by decide) (by injection e))
                have hA8 := LBlk.grown hA7 hgE (fun e => Blk.ne_ hA7 hgb (by decide) (by injection e))
                have hf8 := hf7.trans (Fr.grown (X := fun q => q = g) hgE (fun q e => by injection e with e; exact e.symm)) (fun q e => .inl (.inl e))
                go_wp2_with fail
                go_meet
                case rel =>
                  refine ⟨_, hB8, hA8, ?_, hR8, hf8, .inr rfl⟩
                  first | exact hC8 | (simp only [if_true, if_false, reduceIte, reduceCtorEq, Int.reduceEq]; exact hC8)
              · by_cases e2 : l3 = 2
                · subst e2
                  go_wp2_with fail
                  refine (cpu_over (m := 2) _ hC7).mono ?_
                  rintro e wE ⟨rfl, hC8, hgE⟩
                  have hgb := hC7.blk
                  have hR8 := hR7.grown hgb (by decide) (by decide) hgE
                  have hB8 := LBlk.grown hB7 hgE (fun e => Blk.ne_ hB7 hgb (by decide) (by injection e))
                  have hA8 := LBlk.grown hA7 hgE (fun e => Blk.ne_ hA7 hgb (by decide) (by injection e))
                  have hf8 := hf7.trans (Fr.grown (X := fun q => q = g) hgE (fun q e => by injection e with e; exact e.symm)) (fun q e => .inl (.inl e))
                  go_wp2_with fail
                  go_meet
                  case rel =>
                    refine ⟨_, hB8, hA8, ?_, hR8, hf8, .inr rfl⟩
                    first | exact hC8 | (simp only [if_true, if_false, reduceIte, reduceCtorEq, Int.reduceEq]; exact hC8)
                · by_cases e3 : l3 = 3
                  · subst e3
                    go_wp2_with fail
                    refine (cpu_over (m := 3) _ hC7).mono ?_
                    rintro e wE ⟨rfl, hC8, hgE⟩
                    have hgb := hC7.blk
                    have hR8 := hR7.grown hgb (by decide) (by decide) hgE
                    have hB8 := LBlk.grown hB7 hgE (fun e => Blk.ne_ hB7 hgb (by decide) (by injection e))
                    have hA8 := LBlk.grown hA7 hgE (fun e => Blk.ne_ hA7 hgb (by decide) (by injection e))
                    have hf8 := hf7.trans (Fr.grown (X := fun q => q = g) hgE (fun q e => by injection e with e; exact e.symm)) (fun q e => .inl (.inl e))
                    go_wp2_with fail
                    go_meet
                    case rel =>
                      refine ⟨_, hB8, hA8, ?_, hR8, hf8, .inr rfl⟩
                      first | exact hC8 | (simp only [if_true, if_false, reduceIte, reduceCtorEq, Int.reduceEq]; exact hC8)
                  · have g1 : (l3 == 1) = false := beq_false_of_ne e1
                    have g2 : (l3 == 2) = false := beq_false_of_ne e2
                    have g3 : (l3 == 3) = false := beq_false_of_ne e3
                    go_wp2_with fail
                    go_meet
                    case rel =>
                      refine ⟨v4, hB7, hA7, ?_, hR7, hf7, .inl rfl⟩
                      rw [if_neg e1, if_neg e2, if_neg e3]
                      exact hC7
            case rest =>
              obtain ⟨v5, hB8, hA8, hC8, hR8, hf8, hv5⟩ := hcut
              clear hB7 hA7 hS7 hC7 hR7 hf7 t2
              have n0 := LBlk.cell hB8 0
              have n1 := LBlk.cell hB8 1
              have n2 := LBlk.cell hB8 2
              have n3 := LBlk.cell hB8 3
              have n4 := LBlk.cell hB8 4
              have n5 := LBlk.cell hB8 5
              have n6 := LBlk.cell hB8 6
              have n7 := LBlk.cell hB8 7
              have n8 := LBlk.cell hB8 8
              simp only [List.getElem?_cons_zero, List.getElem?_cons_succ] at n0 n1 n2 n3 n4 n5 n6 n7 n8
              have a0 := LBlk.cell hA8 0
              have a1 := LBlk.cell hA8 1
              have a2 := LBlk.cell hA8 2
              have a3 := LBlk.cell hA8 3
              have a4 := LBlk.cell hA8 4
              have a5 := LBlk.cell hA8 5
              have a6 := LBlk.cell hA8 6
              have a7 := LBlk.cell hA8 7
              have a8 := LBlk.cell hA8 8
              simp only [List.getElem?_cons_zero, List.getElem?_cons_succ] at a0 a1 a2 a3 a4 a5 a6 a7 a8
              have fr0 := LBlk.frozen hA8 0
              have fr1 := LBlk.frozen hA8 1
              have fr2 := LBlk.frozen hA8 2
              have fr3 := LBlk.frozen hA8 3
              have fr4 := LBlk.frozen hA8 4
              have fr5 := LBlk.frozen hA8 5
              have fr6 := LBlk.frozen hA8 6
              have fr7 := LBlk.frozen hA8 7
              have fr8 := LBlk.frozen hA8 8
              have hlB8 := LBlk.lt hB8
              have hlA8 := LBlk.lt hA8
              have hC8h := Lib.hid hC8
              have hR8h := Lib.hid hR8
              have hA8h := Lib.hid hA8
              have hf8h := Lib.hid hf8
              have hsz8 := hf8.size
              clear hC8 hR8 hA8 hf8 hB8
              go_wp2
              have hown := rec_own9 (h := w.heap.size) (.int .u16 (ad.toNat : Int)) (.int .u8 (d.toNat : Int)) (.bool rd) (.bool false) (.bool bs) (.bool l1) (.bool l2) (.bool bz) (.bool true) wc
              refine bodyPost_ret (v := (⟨ad, d, rd, false, bs, l1, l2, bz, true⟩ : Sp.Rec).v) ?_ rfl ?_
              · exact (results_cell_row rfl _ _ w.heap.size 52 (⟨ad, d, rd, false, bs, l1, l2, bz, true⟩ : Sp.Rec).cells (0, 0) _ rfl (rec_set9 _ _ _ _ _ _ _ _ _ hA8h.out) Tryz.underlying52 rfl (by kernel_rfl)).trans rfl
              · rw [step_eq HX.out HD.out HTK.out, HS7.out]
                refine ⟨rfl, v5, pb2, cs2, hC8h.out.other hA8h.out (by decide) (by decide) (by decide) (by decide) hown, hR8h.out.grown hA8h.out (by decide) (by decide) hown, ?_, hf8h.out.trans (Fr.grown (X := fun q => q = w.heap.size) hown (fun q e => by injection e with e; exact e.symm)) (fun q e => .inr (by omega))⟩
                rcases hv5 with rfl | rfl
                · exact hv4
                · intro i hi k hk; cases hk
end Go.Proofs.YtkdaphkpllgmbaaGreat
namespace Go.Proofs.YtkdaphkpllgmbaaGreat.Sp
set_option linter.unusedVariables false
set_option linter.unusedSimpArgs false
def Cpu.new (kind : Int) : Cpu := ⟨⟨false, false, false⟩, ⟨0, 0⟩, kind, 0, 0, ⟨0, 0, 0, 0, 0, 0, 0, 0, 0⟩, Core.new ⟨0, 0, 0, 0, 0, 0, 0, 0, 0⟩⟩
theorem Cpu.new_inv (kind : Int) : (Cpu.new kind).core.Inv := inv_new _
/-- So many cycles without a pin. -/
def idle (rom : Int) (c : Cpu) (m : Mem) : Nat → Cpu × Mem
  | 0 => (c, m)
  | k + 1 => (((idle rom c m k).1.cycle noPins (idle rom c m k).2 rom).2)
def told (rom : Int) (c : Cpu) (m : Mem) (k : Nat) : Rec := ((idle rom c m k).1.cycle noPins (idle rom c m k).2 rom).1
/-- A step of n cycles, up to a boundary. -/
structure StepsIn (rom : Int) (c : Cpu) (m : Mem) (n : Nat) : Prop where
  pos : 0 < n
  mine : ∀ k, k < n → (told rom c m k).mine = true
  under : ∀ k, k + 1 < n → (idle rom c m (k + 1)).1.mode = 1
  at_ : (idle rom c m n).1.mode = 0
theorem idle_inv {rom : Int} {c : Cpu} {m : Mem} (h : c.core.Inv) (k : Nat) : (idle rom c m k).1.core.Inv := by
  induction k with
  | zero => exact h
  | succ k ih => exact inv_cycle ih _ _ _
def mem0 : Mem := fun k => if k = 0 then 0x86 else if k = 1 then 5 else if k = 2 then 0xb7 else if k = 3 then 1 else 0
def work1 : Cpu × Mem := idle 65536 (Cpu.new 0) mem0 2
def work2 : Cpu × Mem := idle 65536 work1.1 work1.2 5
theorem work_1 : StepsIn 65536 (Cpu.new 0) mem0 2 :=
  ⟨by omega, fun k hk => by
    match k, hk with
    | 0, _ => decide
    | 1, _ => decide, fun k hk => by
    match k, hk with
    | 0, _ => decide, by decide⟩
theorem work_2 : StepsIn 65536 work1.1 work1.2 5 :=
  ⟨by omega, fun k hk => by
    match k, hk with
    | 0, _ => decide
    | 1, _ => decide
    | 2, _ => decide
    | 3, _ => decide
    | 4, _ => decide, fun k hk => by
    match k, hk with
    | 0, _ => decide
    | 1, _ => decide
    | 2, _ => decide
    | 3, _ => decide, by decide⟩
theorem work_mem : work2.2 256 = 5 := by decide
theorem work_pc : work2.1.now.pc = 5 := by decide
end Go.Proofs.YtkdaphkpllgmbaaGreat.Sp
namespace Go.Proofs.YtkdaphkpllgmbaaGreat.Sp
set_option linter.unusedVariables false
set_option linter.unusedSimpArgs false
def runs (rom : Int) : List Pins → Cpu → Mem → List Rec × Cpu × Mem
  | [], c, m => ([], c, m)
  | p :: ps, c, m => let x := c.cycle p m rom; let y := runs rom ps x.2.1 x.2.2; (x.1 :: y.1, y.2.1, y.2.2)
theorem runs_snoc (rom : Int) (ps : List Pins) (p : Pins) (c : Cpu) (m : Mem) :
    runs rom (ps ++ [p]) c m = ((runs rom ps c m).1 ++ [((runs rom ps c m).2.1.cycle p (runs rom ps c m).2.2 rom).1], ((runs rom ps c m).2.1.cycle p (runs rom ps c m).2.2 rom).2) := by
  induction ps generalizing c m with
  | nil => rfl
  | cons q ps ih => simp only [List.cons_append, runs, ih]
theorem runs_len (rom : Int) (ps : List Pins) (c : Cpu) (m : Mem) : (runs rom ps c m).1.length = ps.length := by
  induction ps generalizing c m with
  | nil => rfl
  | cons q ps ih => simp only [runs, List.length_cons, ih]
theorem runs_inv (rom : Int) (ps : List Pins) {c : Cpu} (m : Mem) (h : c.core.Inv) : (runs rom ps c m).2.1.core.Inv := by
  induction ps generalizing c m with
  | nil => exact h
  | cons q ps ih => exact ih _ (inv_cycle h _ _ _)
theorem arb_kind (c : Cpu) (row : Int) : (c.begin_ row).kind = c.kind := rfl
theorem step_kind (c : Cpu) (m : Mem) (rom : Int) : (c.step m rom).2.1.kind = c.kind := by
  unfold Cpu.step; dsimp only
  repeat' split
  all_goals rfl
theorem cycle_kind (c : Cpu) (p : Pins) (m : Mem) (rom : Int) : (c.cycle p m rom).2.1.kind = c.kind := by
  unfold Cpu.cycle; dsimp only
  split
  · rfl
  · split
    · rfl
    · split
      · rfl
      · split
        · unfold Cpu.sync; split <;> rfl
        · split
          · unfold Cpu.cwai; dsimp only; split <;> rfl
          · split
            · rw [step_kind]; rfl
            · split
              · split
                · rfl
                · rw [step_kind]; rfl
              · rw [step_kind]
theorem runs_kind (rom : Int) (ps : List Pins) (c : Cpu) (m : Mem) : (runs rom ps c m).2.1.kind = c.kind := by
  induction ps generalizing c m with
  | nil => rfl
  | cons q ps ih => simp only [runs]; rw [ih, cycle_kind]
def quads (c : Cpu) (m : Mem) : List Rec := [⟨0xfffe, m 65534, true, false, false, false, true, false, true⟩, ⟨0xfffe, m 65534, true, false, true, false, true, true, true⟩, ⟨0xffff, m 65535, true, false, true, false, false, false, true⟩, ⟨0xffff, m 65535, true, false, false, true, true, false, true⟩]
theorem runs_reset (rom : Int) (c : Cpu) (m : Mem) :
    ∃ C, runs rom [resetPins, noPins, noPins, noPins] c m = (quads c m, C, m) ∧ C.now = { c.now with cc := c.now.cc ||| 80, dp := 0, pc := joinW (wide (m 65534)) (m 65535) } ∧ C.mode = 0 ∧ C.latch.armed = false := by
  refine ⟨(runs rom [resetPins, noPins, noPins, noPins] c m).2.1, ?_, ?_, ?_, ?_⟩
  · simp only [runs, reset_1, reset_2, reset_3, reset_4, quads]
  · simp only [runs, reset_1, reset_2, reset_3, reset_4, reset_cc]
  · simp only [runs, reset_1, reset_2, reset_3, reset_4]
  · simp only [runs, reset_1, reset_2, reset_3, reset_4]; rfl
end Go.Proofs.YtkdaphkpllgmbaaGreat.Sp
namespace Go.Proofs.YtkdaphkpllgmbaaGreat
open Go.RowKit Sp
set_option linter.unusedVariables false
set_option linter.unusedSimpArgs false
/-- The kinds of blocks that a machine turns. -/
def Mach (t : TypeId) : Prop := t = 97 ∨ t = 209 ∨ t = 91 ∨ t = 5
/-- Blocks of other kinds, and those below B, are as they were. -/
structure Fk (B : Nat) (w w' : World) : Prop where
  os : w'.os = w.os
  tape : w'.tape = w.tape
  output : w'.output = w.output
  size : w.heap.size ≤ w'.heap.size
  block : ∀ (x : Nat) (t : TypeId) (xs : Array Value), Blk w x t xs → ¬ Mach t → Blk w' x t xs
  old : ∀ x, x < B → x < w.heap.size → w'.heap[x]? = w.heap[x]?
section
variable {B : Nat}
theorem Fk.refl (w : World) : Fk B w w := ⟨rfl, rfl, rfl, Nat.le_refl _, fun _ _ _ h _ => h, fun _ _ _ => rfl⟩
theorem Fk.trans {w w1 w2 : World} (h : Fk B w w1) (k : Fk B w1 w2) : Fk B w w2 :=
  ⟨k.os.trans h.os, k.tape.trans h.tape, k.output.trans h.output, Nat.le_trans h.size k.size, fun x t xs hb ht => k.block x t xs (h.block x t xs hb ht) ht, fun x hx hs => (k.old x hx (Nat.lt_of_lt_of_le hs h.size)).trans (h.old x hx hs)⟩
theorem Fk.fr {X : Nat → Prop} {w w' : World} (h : Fr X w w') (hX : ∀ q, X q → B ≤ q ∧ ∃ t xs, Blk w q t xs ∧ Mach t) : Fk B w w' :=
  ⟨h.os, h.tape, h.output, h.size, fun x t xs hb ht => (h.block x hb.lt (fun e => by
    obtain ⟨_, t2, xs2, h2, hm⟩ := hX x e
    exact Blk.ne_ hb h2 (fun e => ht (e ▸ hm)) rfl)).trans hb, fun x hx hs => h.block x hs (fun e => absurd (hX x e).1 (by omega))⟩
theorem Fk.grown {w w' : World} {g : Nat} {t : TypeId} {xs : Array Value} (h : w.grownBy w' (some g)) (hb : Blk w g t xs) (hm : Mach t) (hg : B ≤ g) : Fk B w w' :=
  Fk.fr (Fr.grown (X := fun q => q = g) h (fun q e => by injection e with e; exact e.symm)) (fun q e => e ▸ ⟨hg, t, xs, hb, hm⟩)
theorem Fk.below {w w' : World} (h : Below w.heap.size w w') : Fk B w w' := Fk.fr (Fr.grown (X := fun _ => False) (grown_of_below h none) (by simp)) (fun q e => e.elim)
theorem Fk.lblk {w w' : World} (h : Fk B w w') {x : Nat} {t : TypeId} {l : List Value} (hb : LBlk w x t l) (ht : ¬ Mach t) : LBlk w' x t l := h.block x t _ hb ht
theorem Fk.own {w w1 w2 : World} {x : Nat} (h : Fk B w w1) (hg : w1.grownBy w2 (some x)) (hx : w.heap.size ≤ x) : Fk B w w2 :=
  ⟨hg.os.trans h.os, hg.tape.trans h.tape, hg.output.trans h.output, Nat.le_trans h.size hg.size, fun y t xs hb ht => by
    have h1 := h.block y t xs hb ht
    exact (hg.block y h1.lt (fun e => by injection e with e; have := hb.lt; omega)).trans h1, fun y hy hs => (hg.block y (Nat.lt_of_lt_of_le hs h.size) (fun e => by injection e with e; omega)).trans (h.old y hy hs)⟩
theorem Fk.to_below {w w' : World} (h : Fk B w w') (hB : B ≤ w.heap.size) : Below B w w' := ⟨h.os, h.tape, h.output, h.size, fun q hq => h.old q hq (Nat.lt_of_lt_of_le hq hB)⟩
end
def SysAt (B N g gr : Nat) (s : Cpu) (m : Mem) (rom : Int) (w : World) : Prop :=
  ∃ p lv pb cs, CpuIn B N g p lv s w ∧ RamAt B gr m rom pb cs w ∧ Sep lv pb
section
variable {B N g gr : Nat} {s : Cpu} {m : Mem} {rom : Int} {w w' : World}
theorem SysAt.blk (h : SysAt B N g gr s m rom w) : ∃ p lv, LBlk w g 97 (cpuL s lv p) := by
  obtain ⟨p, lv, pb, cs, hC, _⟩ := h; exact ⟨p, lv, hC.blk⟩
theorem SysAt.lt (h : SysAt B N g gr s m rom w) : g < w.heap.size := by obtain ⟨p, lv, hb⟩ := h.blk; exact Blk.lt hb
theorem SysAt.hB (h : SysAt B N g gr s m rom w) : B ≤ g := by obtain ⟨p, lv, pb, cs, hC, _⟩ := h; exact hC.hg
theorem SysAt.below (h : SysAt B N g gr s m rom w) (hb : Below w.heap.size w w') : SysAt B N g gr s m rom w' := by
  obtain ⟨p, lv, pb, cs, hC, hR, hS⟩ := h; exact ⟨p, lv, pb, cs, hC.below hb, hR.below hb, hS⟩
theorem SysAt.drew_ (h : SysAt B N g gr s m rom w) : SysAt B N g gr s m rom w.drew := h.below (Below.refl _ _).drew
theorem SysAt.alloc_ (h : SysAt B N g gr s m rom w) (o : Obj) : SysAt B N g gr s m rom (w.alloc o) := h.below (below_alloc (Below.refl _ _) _)
theorem CpuIn.more {p : Nat} {lv : Value} {N' : Nat} (h : CpuIn B N g p lv s w) (hN : N ≤ N') : CpuIn B N' g p lv s w := by
  obtain ⟨n, xs, ho, hn⟩ := h.log; exact ⟨h.blk, h.core, ⟨n, xs, ho, Nat.le_trans hn hN⟩, h.hg, h.hp⟩
theorem SysAt.more {N' : Nat} (h : SysAt B N g gr s m rom w) (hN : N ≤ N') : SysAt B N' g gr s m rom w := by
  obtain ⟨p, lv, pb, cs, hC, hR, hS⟩ := h; exact ⟨p, lv, pb, cs, hC.more hN, hR, hS⟩
/-- A block of another kind has turned. -/
theorem SysAt.other {x : Nat} {t : TypeId} {xs : Array Value} (h : SysAt B N g gr s m rom w) (hx : Blk w x t xs) (h1 : 97 ≠ t) (h2 : 209 ≠ t) (h3 : 219 ≠ t) (h4 : 5 ≠ t) (h5 : 91 ≠ t) (hg : w.grownBy w' (some x)) : SysAt B N g gr s m rom w' := by
  obtain ⟨p, lv, pb, cs, hC, hR, hS⟩ := h; exact ⟨p, lv, pb, cs, hC.other hx h1 h2 h3 h4 hg, hR.grown hx h5 h4 hg, hS⟩
theorem sys_sample (q : Sp.Pins) (w : World) (h : SysAt B N g gr s m rom w) : Calls Tryz.prog 42 #[.pointer (some ⟨g, 0, none⟩), q.v] w fun e w' => e = .returned (.tuple #[]) ∧ SysAt B N g gr { s with latch := sample s.latch q.nmi } m rom w' ∧ Fk B w w' := by
  obtain ⟨p, lv, pb, cs, hC, hR, hS⟩ := h
  refine (cpu_sample q w hC).mono ?_
  rintro e w' ⟨rfl, hC', hg⟩
  exact ⟨rfl, ⟨p, lv, pb, cs, hC', hR.grown hC.blk (by decide) (by decide) hg, hS⟩, Fk.grown hg hC.blk (.inl rfl) hC.hg⟩
theorem sys_whose (k : Int) (q : Sp.Pins) (w : World) (h : SysAt B N g gr s m rom w) (hk : k = 0 ∨ k = 1) : Calls Tryz.prog 44 #[.pointer (some ⟨g, 0, none⟩), .int .i64 k, q.v] w fun e w' => e = .returned (.int .i64 (arbNext k s.arb q.req).2) ∧ SysAt B N g gr { s with arb := (arbNext k s.arb q.req).1 } m rom w' ∧ Fk B w w' := by
  obtain ⟨p, lv, pb, cs, hC, hR, hS⟩ := h
  refine (cpu_whose k q w hC hk).mono ?_
  rintro e w' ⟨rfl, hC', hg⟩
  exact ⟨rfl, ⟨p, lv, pb, cs, hC', hR.grown hC.blk (by decide) (by decide) hg, hS⟩, Fk.grown hg hC.blk (.inl rfl) hC.hg⟩
theorem sys_reset (w : World) (h : SysAt B N g gr s m rom w) (hBw : B ≤ w.heap.size) : Calls Tryz.prog 43 #[.pointer (some ⟨g, 0, none⟩), .iface 61 (.pointer (some ⟨gr, 0, none⟩))] w fun e w' => e = .returned (s.reset m).1.v ∧ SysAt B N g gr (s.reset m).2 m rom w' ∧ Fk B w w' := by
  obtain ⟨p, lv, pb, cs, hC, hR, hS⟩ := h
  refine (cpu_reset w hC hR hBw).mono ?_
  rintro e w' ⟨rfl, ⟨p', hC', _⟩, hR', hg⟩
  exact ⟨rfl, ⟨p', _, pb, cs, hC', hR', fun i hi k hk => by cases hk⟩, Fk.grown hg hC.blk (.inl rfl) hC.hg⟩
theorem sys_sync (q : Sp.Pins) (w : World) (h : SysAt B N g gr s m rom w) : Calls Tryz.prog 45 #[.pointer (some ⟨g, 0, none⟩), q.v, .iface 61 (.pointer (some ⟨gr, 0, none⟩))] w fun e w' => e = .returned (s.sync q m).1.v ∧ SysAt B N g gr (s.sync q m).2 m rom w' ∧ Fk B w w' := by
  obtain ⟨p, lv, pb, cs, hC, hR, hS⟩ := h
  cases hw : wakes s.latch q
  · refine (cpu_sync_b q w hC hR hw).mono ?_
    rintro e w' ⟨rfl, hC', hR', hg⟩
    have hx : s.sync q m = (⟨0xffff, 0, true, true, false, false, false, false, true⟩, s) := by unfold Cpu.sync; rw [hw]; rfl
    rw [hx]
    exact ⟨rfl, ⟨p, lv, pb, cs, hC', hR', hS⟩, Fk.grown hg hC.blk (.inl rfl) hC.hg⟩
  · refine (cpu_sync_a q w hC hR hw).mono ?_
    rintro e w' ⟨rfl, hC', hR', hg⟩
    have hx : s.sync q m = (⟨0xffff, m 65535, true, false, false, true, true, false, true⟩, { s with mode := 0 }) := by unfold Cpu.sync; rw [hw]; rfl
    rw [hx]
    exact ⟨rfl, ⟨p, lv, pb, cs, hC', hR', hS⟩, Fk.grown hg hC.blk (.inl rfl) hC.hg⟩
theorem Fk.two {p : Nat} {lv : Value} (hC : CpuIn B N g p lv s w) (hF : Fr (fun q => q = g ∨ q = p) w w') : Fk B w w' := by
  obtain ⟨cs, hp⟩ := hC.cblk
  exact Fk.fr hF (fun q e => e.elim (fun e => e ▸ ⟨hC.hg, _, _, hC.blk, .inl rfl⟩) (fun e => e ▸ ⟨hC.hp, _, _, hp, .inr (.inl rfl)⟩))
theorem sys_cwai (q : Sp.Pins) (w : World) (h : SysAt B N g gr s m rom w) : Calls Tryz.prog 46 #[.pointer (some ⟨g, 0, none⟩), q.v, .iface 61 (.pointer (some ⟨gr, 0, none⟩))] w fun e w' => e = .returned (s.cwai q m).1.v ∧ SysAt B N g gr (s.cwai q m).2 m rom w' ∧ Fk B w w' := by
  obtain ⟨p, lv, pb, cs, hC, hR, hS⟩ := h
  obtain ⟨⟨k, b⟩, hw⟩ : ∃ x, prioBehind s.latch q s.now.cc = x := ⟨_, rfl⟩
  cases b
  · refine (cpu_cwai_b q k w hC hR hw).mono ?_
    rintro e w' ⟨rfl, hC', hR', hg⟩
    have hx : s.cwai q m = (⟨0xffff, m 65535, true, false, false, false, false, false, true⟩, s) := by unfold Cpu.cwai; rw [hw]; rfl
    rw [hx]
    exact ⟨rfl, ⟨p, lv, pb, cs, hC', hR', hS⟩, Fk.two hC hg⟩
  · refine (cpu_cwai_a q k w hC hR hw).mono ?_
    rintro e w' ⟨rfl, hC', hR', hg⟩
    have hx : s.cwai q m = (⟨0xffff, m 65535, true, false, false, false, true, false, true⟩, s.begin_ k) := by unfold Cpu.cwai; rw [hw]; rfl
    rw [hx]
    exact ⟨rfl, ⟨p, _, pb, cs, hC', hR', fun i hi k hk => by cases hk⟩, Fk.two hC hg⟩
theorem sys_begin (k : Int) (w : World) (h : SysAt B N g gr s m rom w) : Calls Tryz.prog 47 #[.pointer (some ⟨g, 0, none⟩), .int .i64 k] w fun e w' => e = .returned (.tuple #[]) ∧ SysAt B N g gr (s.begin_ k) m rom w' ∧ Fk B w w' := by
  obtain ⟨p, lv, pb, cs, hC, hR, hS⟩ := h
  refine (cpu_begin k w hC).mono ?_
  rintro e w' ⟨rfl, hC', hg⟩
  exact ⟨rfl, ⟨p, _, pb, cs, hC', hR.fr hC hg, fun i hi k hk => by cases hk⟩, Fk.two hC hg⟩
theorem sys_step (w : World) (h : SysAt B N g gr s m rom w) (hI : s.core.Inv) (hBw : B ≤ w.heap.size) (hN : N ≤ 1000000) : Calls Tryz.prog 49 #[.pointer (some ⟨g, 0, none⟩), .iface 61 (.pointer (some ⟨gr, 0, none⟩))] w fun e w' => e = .returned (s.step m rom).1.v ∧ SysAt B (N + 1) g gr (s.step m rom).2.1 (s.step m rom).2.2 rom w' ∧ Fk B w w' := by
  obtain ⟨p, lv, pb, cs, hC, hR, hS⟩ := h
  refine (cpu_step w hC hR hI hBw hN hS).mono ?_
  rintro e w' ⟨rfl, lv', pb', cs', hC', hR', hS', hg⟩
  refine ⟨rfl, ⟨p, lv', pb', cs', hC', hR', hS'⟩, Fk.fr hg ?_⟩
  obtain ⟨cc, hp⟩ := hC.cblk
  obtain ⟨n, xs, ho, _⟩ := hC.log
  rintro q (rfl | rfl | rfl | ⟨i, hi, e⟩ | e)
  · exact ⟨hC.hg, _, _, hC.blk, .inl rfl⟩
  · exact ⟨hC.hp, _, _, hp, .inr (.inl rfl)⟩
  · exact ⟨hR.hB, _, _, hR.blk, .inr (.inr (.inl rfl))⟩
  · obtain ⟨⟨ps, hb, _⟩, hB1, _⟩ := hR.page i _ hi e
    exact ⟨hB1, _, _, hb, .inr (.inr (.inr rfl))⟩
  · rcases ho.2 with ⟨h1, _⟩ | ⟨k, cap, cur, h1, h2, h3, _⟩
    · rw [h1] at e; cases e
    · rw [h1] at e; injection e with e; subst e
      exact ⟨h2, _, _, h3, .inr (.inr (.inr rfl))⟩
end
end Go.Proofs.YtkdaphkpllgmbaaGreat
namespace Go.Proofs.YtkdaphkpllgmbaaGreat.Sp
set_option linter.unusedVariables false
set_option linter.unusedSimpArgs false
section
variable {s : Cpu} {q : Pins} {m : Mem} {rom : Int} {a : Arb} {k : Int}
def Cpu.smp (s : Cpu) (q : Pins) : Cpu := { s with latch := sample s.latch q.nmi }
def Cpu.arbd (s : Cpu) (q : Pins) (a : Arb) : Cpu := { s with latch := sample s.latch q.nmi, arb := a }
theorem cyc_reset (hr : q.reset = true) : s.cycle q m rom = (((s.smp q).reset m).1, ((s.smp q).reset m).2, m) := by
  unfold Cpu.cycle Cpu.smp; simp only [hr, if_true]
theorem cyc_granted (hr : q.reset = false) (ha : arbNext s.kind s.arb q.req = (a, 1)) : s.cycle q m rom = (⟨0xffff, 0, true, true, true, false, false, false, false⟩, s.arbd q a, m) := by
  unfold Cpu.cycle Cpu.arbd; simp only [hr, ha, if_true, if_false, Bool.false_eq_true]
theorem cyc_dead (hr : q.reset = false) (ha : arbNext s.kind s.arb q.req = (a, 2)) : s.cycle q m rom = (⟨0xffff, 0, true, false, false, false, false, false, false⟩, s.arbd q a, m) := by
  unfold Cpu.cycle Cpu.arbd; simp only [hr, ha, if_true, if_false, Bool.false_eq_true, show ¬ (2 : Int) = 1 from by decide]
theorem cyc_sync (hr : q.reset = false) (ha : arbNext s.kind s.arb q.req = (a, k)) (h1 : k ≠ 1) (h2 : k ≠ 2) (hm : s.mode = 2) : s.cycle q m rom = (((s.arbd q a).sync q m).1, ((s.arbd q a).sync q m).2, m) := by
  unfold Cpu.cycle Cpu.arbd; simp only [hr, ha, h1, h2, hm, if_true, if_false, Bool.false_eq_true]
theorem cyc_cwai (hr : q.reset = false) (ha : arbNext s.kind s.arb q.req = (a, k)) (h1 : k ≠ 1) (h2 : k ≠ 2) (hm : s.mode = 3) : s.cycle q m rom = (((s.arbd q a).cwai q m).1, ((s.arbd q a).cwai q m).2, m) := by
  unfold Cpu.cycle Cpu.arbd; simp only [hr, ha, h1, h2, hm, if_true, if_false, Bool.false_eq_true, show ¬ (3 : Int) = 2 from by decide]
theorem cyc_four (hr : q.reset = false) (ha : arbNext s.kind s.arb q.req = (a, k)) (h1 : k ≠ 1) (h2 : k ≠ 2) (hm : s.mode = 4) : s.cycle q m rom = ((s.arbd q a).begin_ 4).step m rom := by
  unfold Cpu.cycle Cpu.arbd; simp only [hr, ha, h1, h2, hm, if_true, if_false, Bool.false_eq_true, show ¬ (4 : Int) = 2 from by decide, show ¬ (4 : Int) = 3 from by decide]
theorem cyc_halt (hr : q.reset = false) (ha : arbNext s.kind s.arb q.req = (a, k)) (h1 : k ≠ 1) (h2 : k ≠ 2) (hm : s.mode = 0) (hh : q.halt = true) : s.cycle q m rom = (⟨0xffff, 0, true, true, true, true, false, false, false⟩, s.arbd q a, m) := by
  unfold Cpu.cycle Cpu.arbd; simp only [hr, ha, h1, h2, hm, hh, if_true, if_false, Bool.false_eq_true, show ¬ (0 : Int) = 2 from by decide, show ¬ (0 : Int) = 3 from by decide, show ¬ (0 : Int) = 4 from by decide]
theorem cyc_zero (hr : q.reset = false) (ha : arbNext s.kind s.arb q.req = (a, k)) (h1 : k ≠ 1) (h2 : k ≠ 2) (hm : s.mode = 0) (hh : q.halt = false) : s.cycle q m rom = ((s.arbd q a).begin_ (prioRow (s.arbd q a).latch q (s.arbd q a).now.cc)).step m rom := by
  unfold Cpu.cycle Cpu.arbd; simp only [hr, ha, h1, h2, hm, hh, if_true, if_false, Bool.false_eq_true, show ¬ (0 : Int) = 2 from by decide, show ¬ (0 : Int) = 3 from by decide, show ¬ (0 : Int) = 4 from by decide]
theorem cyc_else (hr : q.reset = false) (ha : arbNext s.kind s.arb q.req = (a, k)) (h1 : k ≠ 1) (h2 : k ≠ 2) (hm2 : s.mode ≠ 2) (hm3 : s.mode ≠ 3) (hm4 : s.mode ≠ 4) (hm0 : s.mode ≠ 0) : s.cycle q m rom = (s.arbd q a).step m rom := by
  unfold Cpu.cycle Cpu.arbd; simp only [hr, ha, h1, h2, hm2, hm3, hm4, hm0, if_true, if_false, Bool.false_eq_true]
end
end Go.Proofs.YtkdaphkpllgmbaaGreat.Sp
namespace Go.Proofs.YtkdaphkpllgmbaaGreat
open Go.RowKit Sp
set_option linter.unusedVariables false
set_option linter.unusedSimpArgs false
attribute [local go_sem] Sp.Latch.v Sp.Pins.v Sp.Rec.v Sp.Rec.cells
theorem nm_rec : ¬ Mach 52 := by unfold Mach; decide
theorem nm_pins : ¬ Mach 48 := by unfold Mach; decide
set_option maxRecDepth 100000 in
set_option maxHeartbeats 20000000 in
theorem sys_cycle {B N g gr : Nat} {s : Cpu} {m : Mem} {rom : Int} (q : Sp.Pins) (w : World) (h : SysAt B N g gr s m rom w) (hI : s.core.Inv) (hk : s.kind = 0 ∨ s.kind = 1) (hBw : B ≤ w.heap.size) (hN : N ≤ 1000000) :
    Calls Tryz.prog 33 #[.pointer (some ⟨g, 0, none⟩), q.v, .iface 61 (.pointer (some ⟨gr, 0, none⟩))] w fun e w' => e = .returned (s.cycle q m rom).1.v ∧ SysAt B (N + 1) g gr (s.cycle q m rom).2.1 (s.cycle q m rom).2.2 rom w' ∧ Fk B w w' := by
  obtain ⟨pr, pn, pf, pi, ph, pq⟩ := q
  have h0 := (h.alloc_ (.cells #[.bool pr, .bool pn, .bool pf, .bool pi, .bool ph, .bool pq] 48)).alloc_ (.cells #[.int .u16 0, .int .u8 0, .bool false, .bool false, .bool false, .bool false, .bool false, .bool false, .bool false] 52)
  have hF0 : Fk B w ((w.alloc (.cells #[.bool pr, .bool pn, .bool pf, .bool pi, .bool ph, .bool pq] 48)).alloc (.cells #[.int .u16 0, .int .u8 0, .bool false, .bool false, .bool false, .bool false, .bool false, .bool false, .bool false] 52)) := Fk.below (below_alloc (below_alloc (Below.refl _ _) _) _)
  have hP0 : LBlk ((w.alloc (.cells #[.bool pr, .bool pn, .bool pf, .bool pi, .bool ph, .bool pq] 48)).alloc (.cells #[.int .u16 0, .int .u8 0, .bool false, .bool false, .bool false, .bool false, .bool false, .bool false, .bool false] 52)) w.heap.size 48 [.bool pr, .bool pn, .bool pf, .bool pi, .bool ph, .bool pq] := Blk.alloc (Blk.newAt w 48 _ w.heap.size rfl) _
  have hA0 : LBlk ((w.alloc (.cells #[.bool pr, .bool pn, .bool pf, .bool pi, .bool ph, .bool pq] 48)).alloc (.cells #[.int .u16 0, .int .u8 0, .bool false, .bool false, .bool false, .bool false, .bool false, .bool false, .bool false] 52)) (w.heap.size + 1) 52 [.int .u16 0, .int .u8 0, .bool false, .bool false, .bool false, .bool false, .bool false, .bool false, .bool false] := Blk.newAt (w.alloc (.cells #[.bool pr, .bool pn, .bool pf, .bool pi, .bool ph, .bool pq] 48)) 52 _ (w.heap.size + 1) (by simp)
  have hgw := h.lt
  have hkh := Lib.hid hk
  have hIh := Lib.hid hI
  clear h hk hI
  go_enter Tryz.func33, Tryz.ntmps33
  go_upto_region 1 with fail
  generalize ((w.alloc (.cells #[.bool pr, .bool pn, .bool pf, .bool pi, .bool ph, .bool pq] 48)).alloc (.cells #[.int .u16 0, .int .u8 0, .bool false, .bool false, .bool false, .bool false, .bool false, .bool false, .bool false] 52)) = w0 at *
  have b0 := LBlk.cell hP0 0
  have b1 := LBlk.cell hP0 1
  have b2 := LBlk.cell hP0 2
  have b3 := LBlk.cell hP0 3
  have b4 := LBlk.cell hP0 4
  have b5 := LBlk.cell hP0 5
  simp only [List.getElem?_cons_zero, List.getElem?_cons_succ] at b0 b1 b2 b3 b4 b5
  have hlb := LBlk.lt hP0
  have hlg := h0.lt
  go_still_tail 4, (by kernel_rfl)
  change wpList _ _ _ _ _ w0.drew
  have h1 := h0.drew_
  have hF1 := hF0.trans (Fk.below (Below.refl _ _).drew)
  have hP1 := LBlk.drew hP0
  have hA1 := LBlk.drew hA0
  clear h0 hF0 hP0 hA0 b0 b1 b2 b3 b4 b5 hlb hlg
  generalize w0.drew = w1 at *
  have HS := Lib.hid (sys_sample ⟨pr, pn, pf, pi, ph, pq⟩ w1 h1)
  go_wp2_with fail
  refine HS.out.mono ?_
  rintro e w2 ⟨rfl, h2, hF2⟩
  have hP2 := hF2.lblk hP1 nm_pins
  have hA2 := hF2.lblk hA1 nm_rec
  have hFw2 := hF1.trans hF2
  clear h1 hF1 hP1 hA1 HS hF2
  have b0 := LBlk.cell hP2 0
  have b1 := LBlk.cell hP2 1
  have b2 := LBlk.cell hP2 2
  have b3 := LBlk.cell hP2 3
  have b4 := LBlk.cell hP2 4
  have b5 := LBlk.cell hP2 5
  simp only [List.getElem?_cons_zero, List.getElem?_cons_succ] at b0 b1 b2 b3 b4 b5
  have hlb := LBlk.lt hP2
  have hs2 := hFw2.size
  cases pr
  · obtain ⟨⟨ar, k⟩, ha⟩ : ∃ x, arbNext s.kind s.arb pq = x := ⟨_, rfl⟩
    have HW := sys_whose s.kind ⟨false, pn, pf, pi, ph, pq⟩ w2.drew h2.drew_ hkh.out
    rw [show arbNext s.kind ({ s with latch := sample s.latch pn } : Cpu).arb (Pins.req ⟨false, pn, pf, pi, ph, pq⟩) = (ar, k) from ha] at HW
    have HA := Lib.hid ha
    have HWh := Lib.hid HW
    obtain ⟨p2, lv2, hb2⟩ := h2.blk
    have g5 := LBlk.cell hb2 5
    simp only [cpuL, List.getElem?_cons_zero, List.getElem?_cons_succ] at g5
    have hlg := h2.lt
    clear ha HW
    go_upto_region 4 with fail
    go_still_tail 8, (by kernel_rfl)
    change wpList _ _ _ _ _ w2.drew
    have hP3 := LBlk.drew hP2
    have hA3 := LBlk.drew hA2
    have hF3 := hFw2.trans (Fk.below (Below.refl _ _).drew)
    clear h2 hb2 g5 hlg hP2 hA2 hFw2 b0 b1 b2 b3 b4 b5 hlb hs2
    generalize w2.drew = w3 at *
    go_wp2_with fail
    refine HWh.out.mono ?_
    rintro e WV ⟨rfl, hS, hF4⟩
    have hP := hF4.lblk hP3 nm_pins
    have hA := hF4.lblk hA3 nm_rec
    have hF := hF3.trans hF4
    clear hP3 hA3 hF3 hF4 HWh
    have hsw := hF.size
    by_cases e1 : k = 1
    · subst e1
      have hSE := hS
      have hAE := hA
      have hFE := hF
      clear hS hA hF hP
      have n0 := LBlk.cell hAE 0
      have n1 := LBlk.cell hAE 1
      have n2 := LBlk.cell hAE 2
      have n3 := LBlk.cell hAE 3
      have n4 := LBlk.cell hAE 4
      have n5 := LBlk.cell hAE 5
      have n6 := LBlk.cell hAE 6
      have n7 := LBlk.cell hAE 7
      have n8 := LBlk.cell hAE 8
      simp only [List.getElem?_cons_zero, List.getElem?_cons_succ] at n0 n1 n2 n3 n4 n5 n6 n7 n8
      have fr0 := LBlk.frozen hAE 0
      have fr1 := LBlk.frozen hAE 1
      have fr2 := LBlk.frozen hAE 2
      have fr3 := LBlk.frozen hAE 3
      have fr4 := LBlk.frozen hAE 4
      have fr5 := LBlk.frozen hAE 5
      have fr6 := LBlk.frozen hAE 6
      have fr7 := LBlk.frozen hAE 7
      have fr8 := LBlk.frozen hAE 8
      have hln := LBlk.lt hAE
      have hSEh := Lib.hid hSE
      have hAEh := Lib.hid hAE
      have hFEh := Lib.hid hFE
      have hsE := hFE.size
      clear hSE hAE hFE
      go_wp2
      have hown := rec_own9 (h := w.heap.size + 1) (.int .u16 65535) (.int .u8 0) (.bool true) (.bool true) (.bool true) (.bool false) (.bool false) (.bool false) (.bool false) WV
      refine bodyPost_ret (v := (⟨65535, 0, true, true, true, false, false, false, false⟩ : Sp.Rec).v) ?_ rfl ?_
      · exact (results_cell_row rfl _ _ (w.heap.size + 1) 52 (⟨65535, 0, true, true, true, false, false, false, false⟩ : Sp.Rec).cells (0, 0) _ rfl (rec_set9 _ _ _ _ _ _ _ _ _ hAEh.out) Tryz.underlying52 rfl (by kernel_rfl)).trans rfl
      · rw [cyc_granted rfl HA.out]
        exact ⟨rfl, (hSEh.out.other hAEh.out (by decide) (by decide) (by decide) (by decide) (by decide) hown).more (Nat.le_succ N), hFEh.out.own hown (by omega)⟩
    · by_cases e2 : k = 2
      · subst e2
        have hSE := hS
        have hAE := hA
        have hFE := hF
        clear hS hA hF hP
        have n0 := LBlk.cell hAE 0
        have n1 := LBlk.cell hAE 1
        have n2 := LBlk.cell hAE 2
        have n3 := LBlk.cell hAE 3
        have n4 := LBlk.cell hAE 4
        have n5 := LBlk.cell hAE 5
        have n6 := LBlk.cell hAE 6
        have n7 := LBlk.cell hAE 7
        have n8 := LBlk.cell hAE 8
        simp only [List.getElem?_cons_zero, List.getElem?_cons_succ] at n0 n1 n2 n3 n4 n5 n6 n7 n8
        have fr0 := LBlk.frozen hAE 0
        have fr1 := LBlk.frozen hAE 1
        have fr2 := LBlk.frozen hAE 2
        have fr3 := LBlk.frozen hAE 3
        have fr4 := LBlk.frozen hAE 4
        have fr5 := LBlk.frozen hAE 5
        have fr6 := LBlk.frozen hAE 6
        have fr7 := LBlk.frozen hAE 7
        have fr8 := LBlk.frozen hAE 8
        have hln := LBlk.lt hAE
        have hSEh := Lib.hid hSE
        have hAEh := Lib.hid hAE
        have hFEh := Lib.hid hFE
        have hsE := hFE.size
        clear hSE hAE hFE
        go_wp2
        have hown := rec_own9 (h := w.heap.size + 1) (.int .u16 65535) (.int .u8 0) (.bool true) (.bool false) (.bool false) (.bool false) (.bool false) (.bool false) (.bool false) WV
        refine bodyPost_ret (v := (⟨65535, 0, true, false, false, false, false, false, false⟩ : Sp.Rec).v) ?_ rfl ?_
        · exact (results_cell_row rfl _ _ (w.heap.size + 1) 52 (⟨65535, 0, true, false, false, false, false, false, false⟩ : Sp.Rec).cells (0, 0) _ rfl (rec_set9 _ _ _ _ _ _ _ _ _ hAEh.out) Tryz.underlying52 rfl (by kernel_rfl)).trans rfl
        · rw [cyc_dead rfl HA.out]
          exact ⟨rfl, (hSEh.out.other hAEh.out (by decide) (by decide) (by decide) (by decide) (by decide) hown).more (Nat.le_succ N), hFEh.out.own hown (by omega)⟩
      · have q1 : (k == 1) = false := beq_false_of_ne e1
        have q2 : (k == 2) = false := beq_false_of_ne e2
        have hS' : SysAt B N g gr (s.arbd ⟨false, pn, pf, pi, ph, pq⟩ ar) m rom WV := hS
        have hI4 : (s.arbd ⟨false, pn, pf, pi, ph, pq⟩ ar).core.Inv := hIh.out
        clear hS
        have hS := hS'
        clear hS'
        obtain ⟨p4, lv4, hb4⟩ := hS.blk
        have g6 := LBlk.cell hb4 6
        simp only [cpuL, List.getElem?_cons_zero, List.getElem?_cons_succ] at g6
        have g6' : WV.cell? ⟨g, 6, none⟩ = some (.int .i64 s.mode) := g6
        have hlg := hS.lt
        clear g6
        have b0 := LBlk.cell hP 0
        have b1 := LBlk.cell hP 1
        have b2 := LBlk.cell hP 2
        have b3 := LBlk.cell hP 3
        have b4 := LBlk.cell hP 4
        have b5 := LBlk.cell hP 5
        simp only [List.getElem?_cons_zero, List.getElem?_cons_succ] at b0 b1 b2 b3 b4 b5
        have hlb := LBlk.lt hP
        by_cases m2 : s.mode = 2
        · rw [m2] at g6'
          have HC := sys_sync ⟨false, pn, pf, pi, ph, pq⟩ WV hS
          obtain ⟨⟨⟨r0, r1, r2, r3, r4, r5, r6, r7, r8⟩, c9⟩, hX⟩ : ∃ X, (s.arbd ⟨false, pn, pf, pi, ph, pq⟩ ar).sync ⟨false, pn, pf, pi, ph, pq⟩ m = X := ⟨_, rfl⟩
          rw [hX] at HC
          have HCh := Lib.hid HC
          have HX := Lib.hid hX
          clear HC hX
          go_wp2_with fail
          refine HCh.out.mono ?_
          rintro e wE ⟨rfl, hSE, hFE0⟩
          have hAE := hFE0.lblk hA nm_rec
          have hFE := hF.trans hFE0
          clear hS hA hP hF hFE0 HCh
          have n0 := LBlk.cell hAE 0
          have n1 := LBlk.cell hAE 1
          have n2 := LBlk.cell hAE 2
          have n3 := LBlk.cell hAE 3
          have n4 := LBlk.cell hAE 4
          have n5 := LBlk.cell hAE 5
          have n6 := LBlk.cell hAE 6
          have n7 := LBlk.cell hAE 7
          have n8 := LBlk.cell hAE 8
          simp only [List.getElem?_cons_zero, List.getElem?_cons_succ] at n0 n1 n2 n3 n4 n5 n6 n7 n8
          have fr0 := LBlk.frozen hAE 0
          have fr1 := LBlk.frozen hAE 1
          have fr2 := LBlk.frozen hAE 2
          have fr3 := LBlk.frozen hAE 3
          have fr4 := LBlk.frozen hAE 4
          have fr5 := LBlk.frozen hAE 5
          have fr6 := LBlk.frozen hAE 6
          have fr7 := LBlk.frozen hAE 7
          have fr8 := LBlk.frozen hAE 8
          have hln := LBlk.lt hAE
          have hSEh := Lib.hid hSE
          have hAEh := Lib.hid hAE
          have hFEh := Lib.hid hFE
          have hsE := hFE.size
          clear hSE hAE hFE
          go_wp2
          have hown := rec_own9 (h := w.heap.size + 1) (.int .u16 (r0.toNat : Int)) (.int .u8 (r1.toNat : Int)) (.bool r2) (.bool r3) (.bool r4) (.bool r5) (.bool r6) (.bool r7) (.bool r8) wE
          refine bodyPost_ret (v := (⟨r0, r1, r2, r3, r4, r5, r6, r7, r8⟩ : Sp.Rec).v) ?_ rfl ?_
          · exact (results_cell_row rfl _ _ (w.heap.size + 1) 52 (⟨r0, r1, r2, r3, r4, r5, r6, r7, r8⟩ : Sp.Rec).cells (0, 0) _ rfl (rec_set9 _ _ _ _ _ _ _ _ _ hAEh.out) Tryz.underlying52 rfl (by kernel_rfl)).trans rfl
          · rw [cyc_sync rfl HA.out e1 e2 m2, HX.out]
            exact ⟨rfl, (hSEh.out.other hAEh.out (by decide) (by decide) (by decide) (by decide) (by decide) hown).more (Nat.le_succ N), hFEh.out.own hown (by omega)⟩
        · by_cases m3 : s.mode = 3
          · rw [m3] at g6'
            have HC := sys_cwai ⟨false, pn, pf, pi, ph, pq⟩ WV hS
            obtain ⟨⟨⟨r0, r1, r2, r3, r4, r5, r6, r7, r8⟩, c9⟩, hX⟩ : ∃ X, (s.arbd ⟨false, pn, pf, pi, ph, pq⟩ ar).cwai ⟨false, pn, pf, pi, ph, pq⟩ m = X := ⟨_, rfl⟩
            rw [hX] at HC
            have HCh := Lib.hid HC
            have HX := Lib.hid hX
            clear HC hX
            go_wp2_with fail
            refine HCh.out.mono ?_
            rintro e wE ⟨rfl, hSE, hFE0⟩
            have hAE := hFE0.lblk hA nm_rec
            have hFE := hF.trans hFE0
            clear hS hA hP hF hFE0 HCh
            have n0 := LBlk.cell hAE 0
            have n1 := LBlk.cell hAE 1
            have n2 := LBlk.cell hAE 2
            have n3 := LBlk.cell hAE 3
            have n4 := LBlk.cell hAE 4
            have n5 := LBlk.cell hAE 5
            have n6 := LBlk.cell hAE 6
            have n7 := LBlk.cell hAE 7
            have n8 := LBlk.cell hAE 8
            simp only [List.getElem?_cons_zero, List.getElem?_cons_succ] at n0 n1 n2 n3 n4 n5 n6 n7 n8
            have fr0 := LBlk.frozen hAE 0
            have fr1 := LBlk.frozen hAE 1
            have fr2 := LBlk.frozen hAE 2
            have fr3 := LBlk.frozen hAE 3
            have fr4 := LBlk.frozen hAE 4
            have fr5 := LBlk.frozen hAE 5
            have fr6 := LBlk.frozen hAE 6
            have fr7 := LBlk.frozen hAE 7
            have fr8 := LBlk.frozen hAE 8
            have hln := LBlk.lt hAE
            have hSEh := Lib.hid hSE
            have hAEh := Lib.hid hAE
            have hFEh := Lib.hid hFE
            have hsE := hFE.size
            clear hSE hAE hFE
            go_wp2
            have hown := rec_own9 (h := w.heap.size + 1) (.int .u16 (r0.toNat : Int)) (.int .u8 (r1.toNat : Int)) (.bool r2) (.bool r3) (.bool r4) (.bool r5) (.bool r6) (.bool r7) (.bool r8) wE
            refine bodyPost_ret (v := (⟨r0, r1, r2, r3, r4, r5, r6, r7, r8⟩ : Sp.Rec).v) ?_ rfl ?_
            · exact (results_cell_row rfl _ _ (w.heap.size + 1) 52 (⟨r0, r1, r2, r3, r4, r5, r6, r7, r8⟩ : Sp.Rec).cells (0, 0) _ rfl (rec_set9 _ _ _ _ _ _ _ _ _ hAEh.out) Tryz.underlying52 rfl (by kernel_rfl)).trans rfl
            · rw [cyc_cwai rfl HA.out e1 e2 m3, HX.out]
              exact ⟨rfl, (hSEh.out.other hAEh.out (by decide) (by decide) (by decide) (by decide) (by decide) hown).more (Nat.le_succ N), hFEh.out.own hown (by omega)⟩
          · by_cases m4 : s.mode = 4
            · rw [m4] at g6'
              have HB := Lib.hid (sys_begin 4 WV hS)
              go_wp2_with fail
              refine HB.out.mono ?_
              rintro e W5 ⟨rfl, hS5, hF5⟩
              have hI5 := inv_cpu_begin hI4 4
              have hA5 := hF5.lblk hA nm_rec
              have hP5 := hF5.lblk hP nm_pins
              have hF6 := hF.trans hF5
              clear hS hA hP hF hF5 HB hb4 g6' hlg b0 b1 b2 b3 b4 b5 hlb
              have hS := hS5
              have hA := hA5
              have hP := hP5
              have hF := hF6
              have hBW := hF.size
              clear hS5 hA5 hP5 hF6
              have HC := sys_step W5 hS hI5 (by omega) hN
              obtain ⟨⟨⟨r0, r1, r2, r3, r4, r5, r6, r7, r8⟩, c9, m9⟩, hX⟩ : ∃ X, ((s.arbd ⟨false, pn, pf, pi, ph, pq⟩ ar).begin_ 4).step m rom = X := ⟨_, rfl⟩
              rw [hX] at HC
              have HCh := Lib.hid HC
              have HX := Lib.hid hX
              clear HC hX
              go_wp2_with fail
              refine HCh.out.mono ?_
              rintro e wE ⟨rfl, hSE, hFE0⟩
              have hAE := hFE0.lblk hA nm_rec
              have hFE := hF.trans hFE0
              clear hS hA hP hF hFE0 HCh
              have n0 := LBlk.cell hAE 0
              have n1 := LBlk.cell hAE 1
              have n2 := LBlk.cell hAE 2
              have n3 := LBlk.cell hAE 3
              have n4 := LBlk.cell hAE 4
              have n5 := LBlk.cell hAE 5
              have n6 := LBlk.cell hAE 6
              have n7 := LBlk.cell hAE 7
              have n8 := LBlk.cell hAE 8
              simp only [List.getElem?_cons_zero, List.getElem?_cons_succ] at n0 n1 n2 n3 n4 n5 n6 n7 n8
              have fr0 := LBlk.frozen hAE 0
              have fr1 := LBlk.frozen hAE 1
              have fr2 := LBlk.frozen hAE 2
              have fr3 := LBlk.frozen hAE 3
              have fr4 := LBlk.frozen hAE 4
              have fr5 := LBlk.frozen hAE 5
              have fr6 := LBlk.frozen hAE 6
              have fr7 := LBlk.frozen hAE 7
              have fr8 := LBlk.frozen hAE 8
              have hln := LBlk.lt hAE
              have hSEh := Lib.hid hSE
              have hAEh := Lib.hid hAE
              have hFEh := Lib.hid hFE
              have hsE := hFE.size
              clear hSE hAE hFE
              go_wp2
              have hown := rec_own9 (h := w.heap.size + 1) (.int .u16 (r0.toNat : Int)) (.int .u8 (r1.toNat : Int)) (.bool r2) (.bool r3) (.bool r4) (.bool r5) (.bool r6) (.bool r7) (.bool r8) wE
              refine bodyPost_ret (v := (⟨r0, r1, r2, r3, r4, r5, r6, r7, r8⟩ : Sp.Rec).v) ?_ rfl ?_
              · exact (results_cell_row rfl _ _ (w.heap.size + 1) 52 (⟨r0, r1, r2, r3, r4, r5, r6, r7, r8⟩ : Sp.Rec).cells (0, 0) _ rfl (rec_set9 _ _ _ _ _ _ _ _ _ hAEh.out) Tryz.underlying52 rfl (by kernel_rfl)).trans rfl
              · rw [cyc_four rfl HA.out e1 e2 m4, HX.out]
                exact ⟨rfl, (hSEh.out.other hAEh.out (by decide) (by decide) (by decide) (by decide) (by decide) hown), hFEh.out.own hown (by omega)⟩
            · by_cases m0 : s.mode = 0
              · rw [m0] at g6'
                cases ph
                · have g0 := LBlk.cell hb4 0
                  have g1 := LBlk.cell hb4 1
                  have g2 := LBlk.cell hb4 2
                  have g12 := LBlk.cell hb4 12
                  simp only [cpuL, List.getElem?_cons_zero, List.getElem?_cons_succ] at g0 g1 g2 g12
                  go_upto_region 19 with fail
                  have HR0 := fun W => prioRow_t (s.arbd ⟨false, pn, pf, pi, false, pq⟩ ar).latch ⟨false, pn, pf, pi, false, pq⟩ s.now.cc W
                  obtain ⟨kz, hkz⟩ : ∃ k, prioRow (s.arbd ⟨false, pn, pf, pi, false, pq⟩ ar).latch ⟨false, pn, pf, pi, false, pq⟩ s.now.cc = k := ⟨_, rfl⟩
                  rw [hkz] at HR0
                  have HR := Lib.hid HR0
                  have HKZ := Lib.hid hkz
                  have hS5 := Lib.hid hS.drew_
                  have hF5 := Lib.hid (hF.trans (Fk.below (Below.refl _ _).drew))
                  have hP5 := Lib.hid (LBlk.drew hP)
                  have hA5 := Lib.hid (LBlk.drew hA)
                  clear HR0 hkz hS hF hP hA hb4
                  go_region_with (first | (go_at_call 48; refine (HR.out _).mono ?_; rintro e W5 ⟨rfl, hb5⟩; have hS6 := hS5.out.below hb5) | (go_at_call 47; refine (sys_begin kz _ hS6).mono ?_; rintro e W6 ⟨rfl, hS, hF7⟩))
                  all_goals
                    clear g0 g1 g2 g12 g6' hlg b0 b1 b2 b3 b4 b5 hlb hsw
                    have hI5 := inv_cpu_begin hI4 kz
                    have hA := hF7.lblk ((Fk.below (B := B) hb5).lblk hA5.out nm_rec) nm_rec
                    have hP := hF7.lblk ((Fk.below (B := B) hb5).lblk hP5.out nm_pins) nm_pins
                    have hF := (hF5.out.trans (Fk.below hb5)).trans hF7
                    clear hF7 hS6 hb5
                    have hBW := hF.size
                    have HC := sys_step W6 hS hI5 (by omega) hN
                    obtain ⟨⟨⟨r0, r1, r2, r3, r4, r5, r6, r7, r8⟩, c9, m9⟩, hX⟩ : ∃ X, ((s.arbd ⟨false, pn, pf, pi, false, pq⟩ ar).begin_ kz).step m rom = X := ⟨_, rfl⟩
                    rw [hX] at HC
                    have HCh := Lib.hid HC
                    have HX := Lib.hid hX
                    clear HC hX
                    go_wp2_with fail
                    refine HCh.out.mono ?_
                    rintro e wE ⟨rfl, hSE, hFE0⟩
                    have hAE := hFE0.lblk hA nm_rec
                    have hFE := hF.trans hFE0
                    clear hS hA hP hF hFE0 HCh
                    have n0 := LBlk.cell hAE 0
                    have n1 := LBlk.cell hAE 1
                    have n2 := LBlk.cell hAE 2
                    have n3 := LBlk.cell hAE 3
                    have n4 := LBlk.cell hAE 4
                    have n5 := LBlk.cell hAE 5
                    have n6 := LBlk.cell hAE 6
                    have n7 := LBlk.cell hAE 7
                    have n8 := LBlk.cell hAE 8
                    simp only [List.getElem?_cons_zero, List.getElem?_cons_succ] at n0 n1 n2 n3 n4 n5 n6 n7 n8
                    have fr0 := LBlk.frozen hAE 0
                    have fr1 := LBlk.frozen hAE 1
                    have fr2 := LBlk.frozen hAE 2
                    have fr3 := LBlk.frozen hAE 3
                    have fr4 := LBlk.frozen hAE 4
                    have fr5 := LBlk.frozen hAE 5
                    have fr6 := LBlk.frozen hAE 6
                    have fr7 := LBlk.frozen hAE 7
                    have fr8 := LBlk.frozen hAE 8
                    have hln := LBlk.lt hAE
                    have hSEh := Lib.hid hSE
                    have hAEh := Lib.hid hAE
                    have hFEh := Lib.hid hFE
                    have hsE := hFE.size
                    clear hSE hAE hFE
                    go_wp2
                    have hown := rec_own9 (h := w.heap.size + 1) (.int .u16 (r0.toNat : Int)) (.int .u8 (r1.toNat : Int)) (.bool r2) (.bool r3) (.bool r4) (.bool r5) (.bool r6) (.bool r7) (.bool r8) wE
                    refine bodyPost_ret (v := (⟨r0, r1, r2, r3, r4, r5, r6, r7, r8⟩ : Sp.Rec).v) ?_ rfl ?_
                    · exact (results_cell_row rfl _ _ (w.heap.size + 1) 52 (⟨r0, r1, r2, r3, r4, r5, r6, r7, r8⟩ : Sp.Rec).cells (0, 0) _ rfl (rec_set9 _ _ _ _ _ _ _ _ _ hAEh.out) Tryz.underlying52 rfl (by kernel_rfl)).trans rfl
                    · rw [cyc_zero rfl HA.out e1 e2 m0 rfl, show prioRow (s.arbd ⟨false, pn, pf, pi, false, pq⟩ ar).latch ⟨false, pn, pf, pi, false, pq⟩ (s.arbd ⟨false, pn, pf, pi, false, pq⟩ ar).now.cc = kz from HKZ.out, HX.out]
                      exact ⟨rfl, (hSEh.out.other hAEh.out (by decide) (by decide) (by decide) (by decide) (by decide) hown), hFEh.out.own hown (by omega)⟩
                · skip
                  have hSE := hS
                  have hAE := hA
                  have hFE := hF
                  clear hS hA hF hP
                  have n0 := LBlk.cell hAE 0
                  have n1 := LBlk.cell hAE 1
                  have n2 := LBlk.cell hAE 2
                  have n3 := LBlk.cell hAE 3
                  have n4 := LBlk.cell hAE 4
                  have n5 := LBlk.cell hAE 5
                  have n6 := LBlk.cell hAE 6
                  have n7 := LBlk.cell hAE 7
                  have n8 := LBlk.cell hAE 8
                  simp only [List.getElem?_cons_zero, List.getElem?_cons_succ] at n0 n1 n2 n3 n4 n5 n6 n7 n8
                  have fr0 := LBlk.frozen hAE 0
                  have fr1 := LBlk.frozen hAE 1
                  have fr2 := LBlk.frozen hAE 2
                  have fr3 := LBlk.frozen hAE 3
                  have fr4 := LBlk.frozen hAE 4
                  have fr5 := LBlk.frozen hAE 5
                  have fr6 := LBlk.frozen hAE 6
                  have fr7 := LBlk.frozen hAE 7
                  have fr8 := LBlk.frozen hAE 8
                  have hln := LBlk.lt hAE
                  have hSEh := Lib.hid hSE
                  have hAEh := Lib.hid hAE
                  have hFEh := Lib.hid hFE
                  have hsE := hFE.size
                  clear hSE hAE hFE
                  go_wp2
                  have hown := rec_own9 (h := w.heap.size + 1) (.int .u16 65535) (.int .u8 0) (.bool true) (.bool true) (.bool true) (.bool true) (.bool false) (.bool false) (.bool false) WV
                  refine bodyPost_ret (v := (⟨65535, 0, true, true, true, true, false, false, false⟩ : Sp.Rec).v) ?_ rfl ?_
                  · exact (results_cell_row rfl _ _ (w.heap.size + 1) 52 (⟨65535, 0, true, true, true, true, false, false, false⟩ : Sp.Rec).cells (0, 0) _ rfl (rec_set9 _ _ _ _ _ _ _ _ _ hAEh.out) Tryz.underlying52 rfl (by kernel_rfl)).trans rfl
                  · rw [cyc_halt rfl HA.out e1 e2 m0 rfl]
                    exact ⟨rfl, (hSEh.out.other hAEh.out (by decide) (by decide) (by decide) (by decide) (by decide) hown).more (Nat.le_succ N), hFEh.out.own hown (by omega)⟩
              · have q3 : (s.mode == 2) = false := beq_false_of_ne m2
                have q4 : (s.mode == 3) = false := beq_false_of_ne m3
                have q5 : (s.mode == 4) = false := beq_false_of_ne m4
                have q6 : (s.mode == 0) = false := beq_false_of_ne m0
                have hBW := hF.size
                have HC := sys_step WV hS hI4 (by omega) hN
                obtain ⟨⟨⟨r0, r1, r2, r3, r4, r5, r6, r7, r8⟩, c9, m9⟩, hX⟩ : ∃ X, (s.arbd ⟨false, pn, pf, pi, ph, pq⟩ ar).step m rom = X := ⟨_, rfl⟩
                rw [hX] at HC
                have HCh := Lib.hid HC
                have HX := Lib.hid hX
                clear HC hX
                go_wp2_with fail
                refine HCh.out.mono ?_
                rintro e wE ⟨rfl, hSE, hFE0⟩
                have hAE := hFE0.lblk hA nm_rec
                have hFE := hF.trans hFE0
                clear hS hA hP hF hFE0 HCh
                have n0 := LBlk.cell hAE 0
                have n1 := LBlk.cell hAE 1
                have n2 := LBlk.cell hAE 2
                have n3 := LBlk.cell hAE 3
                have n4 := LBlk.cell hAE 4
                have n5 := LBlk.cell hAE 5
                have n6 := LBlk.cell hAE 6
                have n7 := LBlk.cell hAE 7
                have n8 := LBlk.cell hAE 8
                simp only [List.getElem?_cons_zero, List.getElem?_cons_succ] at n0 n1 n2 n3 n4 n5 n6 n7 n8
                have fr0 := LBlk.frozen hAE 0
                have fr1 := LBlk.frozen hAE 1
                have fr2 := LBlk.frozen hAE 2
                have fr3 := LBlk.frozen hAE 3
                have fr4 := LBlk.frozen hAE 4
                have fr5 := LBlk.frozen hAE 5
                have fr6 := LBlk.frozen hAE 6
                have fr7 := LBlk.frozen hAE 7
                have fr8 := LBlk.frozen hAE 8
                have hln := LBlk.lt hAE
                have hSEh := Lib.hid hSE
                have hAEh := Lib.hid hAE
                have hFEh := Lib.hid hFE
                have hsE := hFE.size
                clear hSE hAE hFE
                go_wp2
                have hown := rec_own9 (h := w.heap.size + 1) (.int .u16 (r0.toNat : Int)) (.int .u8 (r1.toNat : Int)) (.bool r2) (.bool r3) (.bool r4) (.bool r5) (.bool r6) (.bool r7) (.bool r8) wE
                refine bodyPost_ret (v := (⟨r0, r1, r2, r3, r4, r5, r6, r7, r8⟩ : Sp.Rec).v) ?_ rfl ?_
                · exact (results_cell_row rfl _ _ (w.heap.size + 1) 52 (⟨r0, r1, r2, r3, r4, r5, r6, r7, r8⟩ : Sp.Rec).cells (0, 0) _ rfl (rec_set9 _ _ _ _ _ _ _ _ _ hAEh.out) Tryz.underlying52 rfl (by kernel_rfl)).trans rfl
                · rw [cyc_else rfl HA.out e1 e2 m2 m3 m4 m0, HX.out]
                  exact ⟨rfl, (hSEh.out.other hAEh.out (by decide) (by decide) (by decide) (by decide) (by decide) hown), hFEh.out.own hown (by omega)⟩
  · have hS' : SysAt B N g gr (s.smp ⟨true, pn, pf, pi, ph, pq⟩) m rom w2 := h2
    have hS := hS'
    have hA := hA2
    have hP := hP2
    have hF := hFw2
    clear hS' h2 hA2 hP2 hFw2
    have HC := sys_reset w2 hS (by omega)
    obtain ⟨⟨⟨r0, r1, r2, r3, r4, r5, r6, r7, r8⟩, c9⟩, hX⟩ : ∃ X, (s.smp ⟨true, pn, pf, pi, ph, pq⟩).reset m = X := ⟨_, rfl⟩
    rw [hX] at HC
    have HCh := Lib.hid HC
    have HX := Lib.hid hX
    clear HC hX
    go_wp2_with fail
    refine HCh.out.mono ?_
    rintro e wE ⟨rfl, hSE, hFE0⟩
    have hAE := hFE0.lblk hA nm_rec
    have hFE := hF.trans hFE0
    clear hS hA hP hF hFE0 HCh
    have n0 := LBlk.cell hAE 0
    have n1 := LBlk.cell hAE 1
    have n2 := LBlk.cell hAE 2
    have n3 := LBlk.cell hAE 3
    have n4 := LBlk.cell hAE 4
    have n5 := LBlk.cell hAE 5
    have n6 := LBlk.cell hAE 6
    have n7 := LBlk.cell hAE 7
    have n8 := LBlk.cell hAE 8
    simp only [List.getElem?_cons_zero, List.getElem?_cons_succ] at n0 n1 n2 n3 n4 n5 n6 n7 n8
    have fr0 := LBlk.frozen hAE 0
    have fr1 := LBlk.frozen hAE 1
    have fr2 := LBlk.frozen hAE 2
    have fr3 := LBlk.frozen hAE 3
    have fr4 := LBlk.frozen hAE 4
    have fr5 := LBlk.frozen hAE 5
    have fr6 := LBlk.frozen hAE 6
    have fr7 := LBlk.frozen hAE 7
    have fr8 := LBlk.frozen hAE 8
    have hln := LBlk.lt hAE
    have hSEh := Lib.hid hSE
    have hAEh := Lib.hid hAE
    have hFEh := Lib.hid hFE
    have hsE := hFE.size
    clear hSE hAE hFE
    go_wp2
    have hown := rec_own9 (h := w.heap.size + 1) (.int .u16 (r0.toNat : Int)) (.int .u8 (r1.toNat : Int)) (.bool r2) (.bool r3) (.bool r4) (.bool r5) (.bool r6) (.bool r7) (.bool r8) wE
    refine bodyPost_ret (v := (⟨r0, r1, r2, r3, r4, r5, r6, r7, r8⟩ : Sp.Rec).v) ?_ rfl ?_
    · exact (results_cell_row rfl _ _ (w.heap.size + 1) 52 (⟨r0, r1, r2, r3, r4, r5, r6, r7, r8⟩ : Sp.Rec).cells (0, 0) _ rfl (rec_set9 _ _ _ _ _ _ _ _ _ hAEh.out) Tryz.underlying52 rfl (by kernel_rfl)).trans rfl
    · rw [cyc_reset rfl, HX.out]
      exact ⟨rfl, (hSEh.out.other hAEh.out (by decide) (by decide) (by decide) (by decide) (by decide) hown).more (Nat.le_succ N), hFEh.out.own hown (by omega)⟩
end Go.Proofs.YtkdaphkpllgmbaaGreat
namespace Go.Proofs.YtkdaphkpllgmbaaGreat
open Go.RowKit Sp
set_option linter.unusedVariables false
set_option linter.unusedSimpArgs false
attribute [local go_sem] Sp.Pins.v Sp.Rec.v Sp.Rec.cells Sp.Regs.v Sp.Regs.cells
theorem row9_set {w : World} {h : Nat} {t : TypeId} {x0 x1 x2 x3 x4 x5 x6 x7 x8 : Value} (a b c d e f i j k : Value) (B : LBlk w h t [x0, x1, x2, x3, x4, x5, x6, x7, x8]) : LBlk (st9 w h a b c d e f i j k) h t [a, b, c, d, e, f, i, j, k] := ((((((((B.set_ 0 a).set_ 1 b).set_ 2 c).set_ 3 d).set_ 4 e).set_ 5 f).set_ 6 i).set_ 7 j).set_ 8 k
theorem below9 {B : Nat} {u w : World} (hb : Below B u w) {x : Nat} (hx : B ≤ x) (a b c d e f i j k : Value) : Below B u (st9 w x a b c d e f i j k) := ((((((((hb.setCell (p := ⟨x, 0, none⟩) hx a).setCell (p := ⟨x, 1, none⟩) hx b).setCell (p := ⟨x, 2, none⟩) hx c).setCell (p := ⟨x, 3, none⟩) hx d).setCell (p := ⟨x, 4, none⟩) hx e).setCell (p := ⟨x, 5, none⟩) hx f).setCell (p := ⟨x, 6, none⟩) hx i).setCell (p := ⟨x, 7, none⟩) hx j).setCell (p := ⟨x, 8, none⟩) hx k
theorem nm_mach : ¬ Mach 82 := by unfold Mach; decide
def MachAt (B N h : Nat) (s : Cpu) (m : Mem) (rom : Int) (w : World) : Prop :=
  ∃ g gr, LBlk w h 82 [.pointer (some ⟨g, 0, none⟩), .pointer (some ⟨gr, 0, none⟩)] ∧ SysAt B N g gr s m rom w
section
variable {B N h : Nat} {s : Cpu} {m : Mem} {rom : Int} {w w' : World}
theorem MachAt.below (hM : MachAt B N h s m rom w) (hb : Below w.heap.size w w') : MachAt B N h s m rom w' := by
  obtain ⟨g, gr, hl, hS⟩ := hM; exact ⟨g, gr, LBlk.below hl hb (LBlk.lt hl), hS.below hb⟩
theorem MachAt.more {N' : Nat} (hM : MachAt B N h s m rom w) (hN : N ≤ N') : MachAt B N' h s m rom w := by
  obtain ⟨g, gr, hl, hS⟩ := hM; exact ⟨g, gr, hl, hS.more hN⟩
theorem MachAt.lt (hM : MachAt B N h s m rom w) : h < w.heap.size := by obtain ⟨g, gr, hl, hS⟩ := hM; exact LBlk.lt hl
end
set_option maxRecDepth 100000 in
set_option maxHeartbeats 8000000 in
theorem mach_tick {B N h : Nat} {s : Cpu} {m : Mem} {rom : Int} (q : Sp.Pins) (w : World) (hM : MachAt B N h s m rom w) (hI : s.core.Inv) (hk : s.kind = 0 ∨ s.kind = 1) (hBw : B ≤ w.heap.size) (hN : N ≤ 1000000) :
    Calls Tryz.prog 24 #[.pointer (some ⟨h, 0, none⟩), q.v] w fun e w' => e = .returned (s.cycle q m rom).1.v ∧ MachAt B (N + 1) h (s.cycle q m rom).2.1 (s.cycle q m rom).2.2 rom w' ∧ Fk B w w' := by
  obtain ⟨pr, pn, pf, pi, ph, pq⟩ := q
  have h0 := hM.below (w' := (w.alloc (.cells #[.bool pr, .bool pn, .bool pf, .bool pi, .bool ph, .bool pq] 48)).alloc (.cells #[.int .u16 0, .int .u8 0, .bool false, .bool false, .bool false, .bool false, .bool false, .bool false, .bool false] 52)) (below_alloc (below_alloc (Below.refl _ _) _) _)
  have hF0 : Fk B w ((w.alloc (.cells #[.bool pr, .bool pn, .bool pf, .bool pi, .bool ph, .bool pq] 48)).alloc (.cells #[.int .u16 0, .int .u8 0, .bool false, .bool false, .bool false, .bool false, .bool false, .bool false, .bool false] 52)) := Fk.below (below_alloc (below_alloc (Below.refl _ _) _) _)
  have hP0 : LBlk ((w.alloc (.cells #[.bool pr, .bool pn, .bool pf, .bool pi, .bool ph, .bool pq] 48)).alloc (.cells #[.int .u16 0, .int .u8 0, .bool false, .bool false, .bool false, .bool false, .bool false, .bool false, .bool false] 52)) w.heap.size 48 [.bool pr, .bool pn, .bool pf, .bool pi, .bool ph, .bool pq] := Blk.alloc (Blk.newAt w 48 _ w.heap.size rfl) _
  have hA0 : LBlk ((w.alloc (.cells #[.bool pr, .bool pn, .bool pf, .bool pi, .bool ph, .bool pq] 48)).alloc (.cells #[.int .u16 0, .int .u8 0, .bool false, .bool false, .bool false, .bool false, .bool false, .bool false, .bool false] 52)) (w.heap.size + 1) 52 [.int .u16 0, .int .u8 0, .bool false, .bool false, .bool false, .bool false, .bool false, .bool false, .bool false] := Blk.newAt (w.alloc (.cells #[.bool pr, .bool pn, .bool pf, .bool pi, .bool ph, .bool pq] 48)) 52 _ (w.heap.size + 1) (by simp)
  have hhl := hM.lt
  clear hM
  go_enter Tryz.func24, Tryz.ntmps24
  go_upto_region 1 with fail
  generalize ((w.alloc (.cells #[.bool pr, .bool pn, .bool pf, .bool pi, .bool ph, .bool pq] 48)).alloc (.cells #[.int .u16 0, .int .u8 0, .bool false, .bool false, .bool false, .bool false, .bool false, .bool false, .bool false] 52)) = w0 at *
  have b0 := LBlk.cell hP0 0
  have b1 := LBlk.cell hP0 1
  have b2 := LBlk.cell hP0 2
  have b3 := LBlk.cell hP0 3
  have b4 := LBlk.cell hP0 4
  have b5 := LBlk.cell hP0 5
  simp only [List.getElem?_cons_zero, List.getElem?_cons_succ] at b0 b1 b2 b3 b4 b5
  have hlb := LBlk.lt hP0
  have hs0 := hF0.size
  obtain ⟨g, gr, hl, hS0⟩ := h0
  have k0 := LBlk.cell hl 0
  have k1 := LBlk.cell hl 1
  simp only [List.getElem?_cons_zero, List.getElem?_cons_succ] at k0 k1
  have hlh := LBlk.lt hl
  go_still_tail 10, (by kernel_rfl)
  change wpList _ _ _ _ _ w0.drew
  have hS1 := hS0.drew_
  have hl1 := LBlk.drew hl
  have hF1 := hF0.trans (Fk.below (Below.refl _ _).drew)
  have hA1 := LBlk.drew hA0
  have hs1 := hF1.size
  clear hS0 hl k0 k1 hlh hF0 hP0 hA0 b0 b1 b2 b3 b4 b5 hlb hs0
  generalize w0.drew = w1 at *
  have HC := sys_cycle ⟨pr, pn, pf, pi, ph, pq⟩ w1 hS1 hI hk (by omega) hN
  obtain ⟨⟨⟨r0, r1, r2, r3, r4, r5, r6, r7, r8⟩, c9, m9⟩, hX⟩ : ∃ X, s.cycle ⟨pr, pn, pf, pi, ph, pq⟩ m rom = X := ⟨_, rfl⟩
  rw [hX] at HC
  have HCh := Lib.hid HC
  have HX := Lib.hid hX
  clear HC hX
  go_wp2_with fail
  refine HCh.out.mono ?_
  rintro e wE ⟨rfl, hSE, hFE0⟩
  have hAE := hFE0.lblk hA1 nm_rec
  have hFE := hF1.trans hFE0
  have hlE := Lib.hid (hFE0.lblk hl1 nm_mach)
  clear hS1 hA1 hF1 hFE0 HCh hl1
  have n0 := LBlk.cell hAE 0
  have n1 := LBlk.cell hAE 1
  have n2 := LBlk.cell hAE 2
  have n3 := LBlk.cell hAE 3
  have n4 := LBlk.cell hAE 4
  have n5 := LBlk.cell hAE 5
  have n6 := LBlk.cell hAE 6
  have n7 := LBlk.cell hAE 7
  have n8 := LBlk.cell hAE 8
  simp only [List.getElem?_cons_zero, List.getElem?_cons_succ] at n0 n1 n2 n3 n4 n5 n6 n7 n8
  have fr0 := LBlk.frozen hAE 0
  have fr1 := LBlk.frozen hAE 1
  have fr2 := LBlk.frozen hAE 2
  have fr3 := LBlk.frozen hAE 3
  have fr4 := LBlk.frozen hAE 4
  have fr5 := LBlk.frozen hAE 5
  have fr6 := LBlk.frozen hAE 6
  have fr7 := LBlk.frozen hAE 7
  have fr8 := LBlk.frozen hAE 8
  have hln := LBlk.lt hAE
  have hSEh := Lib.hid hSE
  have hAEh := Lib.hid hAE
  have hFEh := Lib.hid hFE
  have hsE := hFE.size
  clear hSE hAE hFE
  go_wp2
  have hown := rec_own9 (h := w.heap.size + 1) (.int .u16 (r0.toNat : Int)) (.int .u8 (r1.toNat : Int)) (.bool r2) (.bool r3) (.bool r4) (.bool r5) (.bool r6) (.bool r7) (.bool r8) wE
  refine bodyPost_ret (v := (⟨r0, r1, r2, r3, r4, r5, r6, r7, r8⟩ : Sp.Rec).v) ?_ rfl ?_
  · exact (results_cell_row rfl _ _ (w.heap.size + 1) 52 (⟨r0, r1, r2, r3, r4, r5, r6, r7, r8⟩ : Sp.Rec).cells (0, 0) _ rfl (rec_set9 _ _ _ _ _ _ _ _ _ hAEh.out) Tryz.underlying52 rfl (by kernel_rfl)).trans rfl
  · rw [HX.out]
    exact ⟨rfl, ⟨g, gr, LBlk.grown hlE.out hown (fun e => by injection e with e; omega), hSEh.out.other hAEh.out (by decide) (by decide) (by decide) (by decide) (by decide) hown⟩, hFEh.out.own hown (by omega)⟩
set_option maxRecDepth 100000 in
set_option maxHeartbeats 8000000 in
theorem mach_Cycle {B N h : Nat} {s : Cpu} {m : Mem} {rom : Int} (q : Sp.Pins) (w : World) (hM : MachAt B N h s m rom w) (hI : s.core.Inv) (hk : s.kind = 0 ∨ s.kind = 1) (hBw : B ≤ w.heap.size) (hN : N ≤ 1000000) :
    Calls Tryz.prog 9 #[.pointer (some ⟨h, 0, none⟩), q.v] w fun e w' => e = .returned (s.cycle q m rom).1.v ∧ MachAt B (N + 1) h (s.cycle q m rom).2.1 (s.cycle q m rom).2.2 rom w' ∧ Fk B w w' := by
  obtain ⟨pr, pn, pf, pi, ph, pq⟩ := q
  have h0 := hM.below (w' := (w.alloc (.cells #[.bool pr, .bool pn, .bool pf, .bool pi, .bool ph, .bool pq] 48)).alloc (.cells #[.int .u16 0, .int .u8 0, .bool false, .bool false, .bool false, .bool false, .bool false, .bool false, .bool false] 52)) (below_alloc (below_alloc (Below.refl _ _) _) _)
  have hF0 : Fk B w ((w.alloc (.cells #[.bool pr, .bool pn, .bool pf, .bool pi, .bool ph, .bool pq] 48)).alloc (.cells #[.int .u16 0, .int .u8 0, .bool false, .bool false, .bool false, .bool false, .bool false, .bool false, .bool false] 52)) := Fk.below (below_alloc (below_alloc (Below.refl _ _) _) _)
  have hP0 : LBlk ((w.alloc (.cells #[.bool pr, .bool pn, .bool pf, .bool pi, .bool ph, .bool pq] 48)).alloc (.cells #[.int .u16 0, .int .u8 0, .bool false, .bool false, .bool false, .bool false, .bool false, .bool false, .bool false] 52)) w.heap.size 48 [.bool pr, .bool pn, .bool pf, .bool pi, .bool ph, .bool pq] := Blk.alloc (Blk.newAt w 48 _ w.heap.size rfl) _
  have hA0 : LBlk ((w.alloc (.cells #[.bool pr, .bool pn, .bool pf, .bool pi, .bool ph, .bool pq] 48)).alloc (.cells #[.int .u16 0, .int .u8 0, .bool false, .bool false, .bool false, .bool false, .bool false, .bool false, .bool false] 52)) (w.heap.size + 1) 52 [.int .u16 0, .int .u8 0, .bool false, .bool false, .bool false, .bool false, .bool false, .bool false, .bool false] := Blk.newAt (w.alloc (.cells #[.bool pr, .bool pn, .bool pf, .bool pi, .bool ph, .bool pq] 48)) 52 _ (w.heap.size + 1) (by simp)
  have hhl := hM.lt
  clear hM
  go_enter Tryz.func9, Tryz.ntmps9
  go_upto_region 1 with fail
  generalize ((w.alloc (.cells #[.bool pr, .bool pn, .bool pf, .bool pi, .bool ph, .bool pq] 48)).alloc (.cells #[.int .u16 0, .int .u8 0, .bool false, .bool false, .bool false, .bool false, .bool false, .bool false, .bool false] 52)) = w0 at *
  have b0 := LBlk.cell hP0 0
  have b1 := LBlk.cell hP0 1
  have b2 := LBlk.cell hP0 2
  have b3 := LBlk.cell hP0 3
  have b4 := LBlk.cell hP0 4
  have b5 := LBlk.cell hP0 5
  simp only [List.getElem?_cons_zero, List.getElem?_cons_succ] at b0 b1 b2 b3 b4 b5
  have hlb := LBlk.lt hP0
  have hs0 := hF0.size
  go_still_tail 4, (by kernel_rfl)
  change wpList _ _ _ _ _ w0.drew
  have hS1 := h0.below (Below.refl _ _).drew
  have hF1 := hF0.trans (Fk.below (Below.refl _ _).drew)
  have hA1 := LBlk.drew hA0
  have hs1 := hF1.size
  clear h0 hF0 hP0 hA0 b0 b1 b2 b3 b4 b5 hlb hs0
  generalize w0.drew = w1 at *
  have HC := mach_tick ⟨pr, pn, pf, pi, ph, pq⟩ w1 hS1 hI hk (by omega) hN
  obtain ⟨⟨⟨r0, r1, r2, r3, r4, r5, r6, r7, r8⟩, c9, m9⟩, hX⟩ : ∃ X, s.cycle ⟨pr, pn, pf, pi, ph, pq⟩ m rom = X := ⟨_, rfl⟩
  rw [hX] at HC
  have HCh := Lib.hid HC
  have HX := Lib.hid hX
  clear HC hX
  go_wp2_with fail
  refine HCh.out.mono ?_
  rintro e wE ⟨rfl, hSE, hFE0⟩
  have hAE := hFE0.lblk hA1 nm_rec
  have hFE := hF1.trans hFE0
  clear hS1 hA1 hF1 hFE0 HCh
  have n0 := LBlk.cell hAE 0
  have n1 := LBlk.cell hAE 1
  have n2 := LBlk.cell hAE 2
  have n3 := LBlk.cell hAE 3
  have n4 := LBlk.cell hAE 4
  have n5 := LBlk.cell hAE 5
  have n6 := LBlk.cell hAE 6
  have n7 := LBlk.cell hAE 7
  have n8 := LBlk.cell hAE 8
  simp only [List.getElem?_cons_zero, List.getElem?_cons_succ] at n0 n1 n2 n3 n4 n5 n6 n7 n8
  have fr0 := LBlk.frozen hAE 0
  have fr1 := LBlk.frozen hAE 1
  have fr2 := LBlk.frozen hAE 2
  have fr3 := LBlk.frozen hAE 3
  have fr4 := LBlk.frozen hAE 4
  have fr5 := LBlk.frozen hAE 5
  have fr6 := LBlk.frozen hAE 6
  have fr7 := LBlk.frozen hAE 7
  have fr8 := LBlk.frozen hAE 8
  have hln := LBlk.lt hAE
  have hSEh := Lib.hid hSE
  have hAEh := Lib.hid hAE
  have hFEh := Lib.hid hFE
  have hsE := hFE.size
  clear hSE hAE hFE
  go_wp2
  have hown := rec_own9 (h := w.heap.size + 1) (.int .u16 (r0.toNat : Int)) (.int .u8 (r1.toNat : Int)) (.bool r2) (.bool r3) (.bool r4) (.bool r5) (.bool r6) (.bool r7) (.bool r8) wE
  refine bodyPost_ret (v := (⟨r0, r1, r2, r3, r4, r5, r6, r7, r8⟩ : Sp.Rec).v) ?_ rfl ?_
  · exact (results_cell_row rfl _ _ (w.heap.size + 1) 52 (⟨r0, r1, r2, r3, r4, r5, r6, r7, r8⟩ : Sp.Rec).cells (0, 0) _ rfl (rec_set9 _ _ _ _ _ _ _ _ _ hAEh.out) Tryz.underlying52 rfl (by kernel_rfl)).trans rfl
  · rw [HX.out]
    obtain ⟨g, gr, hl, hS⟩ := hSEh.out
    exact ⟨rfl, ⟨g, gr, LBlk.grown hl hown (fun e => by injection e with e; omega), hS.other hAEh.out (by decide) (by decide) (by decide) (by decide) (by decide) hown⟩, hFEh.out.own hown (by omega)⟩
set_option maxRecDepth 100000 in
set_option maxHeartbeats 8000000 in
theorem mach_Mode {B N h : Nat} {s : Cpu} {m : Mem} {rom : Int}  (w : World) (hM : MachAt B N h s m rom w) :
    Calls Tryz.prog 7 #[.pointer (some ⟨h, 0, none⟩)] w fun e w' => e = .returned (.int .i64 s.mode) ∧ w = w' := by
  obtain ⟨g, gr, hl, hS⟩ := hM
  have k0 := LBlk.cell hl 0
  have k1 := LBlk.cell hl 1
  simp only [List.getElem?_cons_zero, List.getElem?_cons_succ] at k0 k1
  have hlh := LBlk.lt hl
  obtain ⟨p, lv, pb, cs, hC, _⟩ := hS
  have HC := Lib.hid (cpu_Mode w hC)
  go_enter Tryz.func7, Tryz.ntmps7
  go_wp2_with fail
  refine HC.out.mono ?_
  rintro e w' ⟨rfl, rfl⟩
  go_wp2
  go_ret
  exact ⟨rfl, rfl⟩
set_option maxRecDepth 100000 in
set_option maxHeartbeats 8000000 in
theorem mach_waits {B N h : Nat} {s : Cpu} {m : Mem} {rom : Int}  (w : World) (hM : MachAt B N h s m rom w) :
    Calls Tryz.prog 66 #[.pointer (some ⟨h, 0, none⟩)] w fun e w' => e = .returned (.bool (decide (s.mode = 2) || decide (s.mode = 3))) ∧ w = w' := by
  obtain ⟨g, gr, hl, hS⟩ := hM
  have k0 := LBlk.cell hl 0
  have k1 := LBlk.cell hl 1
  simp only [List.getElem?_cons_zero, List.getElem?_cons_succ] at k0 k1
  have hlh := LBlk.lt hl
  obtain ⟨p, lv, pb, cs, hC, _⟩ := hS
  have HC := Lib.hid (cpu_Mode w hC)
  go_enter Tryz.func66, Tryz.ntmps66
  go_wp2_with fail
  refine HC.out.mono ?_
  rintro e w' ⟨rfl, rfl⟩
  by_cases e1 : s.mode = 2
  · rw [e1]
    go_wp2
    go_ret
    exact ⟨by rw [e1]; rfl, rfl⟩
  · have q1 : (s.mode == 2) = false := beq_false_of_ne e1
    go_wp2_with fail
    refine HC.out.mono ?_
    rintro e w' ⟨rfl, rfl⟩
    go_wp2
    go_ret
    refine ⟨?_, rfl⟩
    by_cases e2 : s.mode = 3
    · rw [e2]; rfl
    · have q2 : (s.mode == 3) = false := beq_false_of_ne e2
      simp only [q2, e1, e2, decide_false, Bool.or_false]
      rfl
theorem mach_Ram {h g gr : Nat} (w : World) (hl : LBlk w h 82 [.pointer (some ⟨g, 0, none⟩), .pointer (some ⟨gr, 0, none⟩)]) :
    Calls Tryz.prog 15 #[.pointer (some ⟨h, 0, none⟩)] w fun e w' => e = .returned (.pointer (some ⟨gr, 0, none⟩)) ∧ w = w' := by
  have k0 := LBlk.cell hl 0
  have k1 := LBlk.cell hl 1
  simp only [List.getElem?_cons_zero, List.getElem?_cons_succ] at k0 k1
  have hlh := LBlk.lt hl
  go_enter Tryz.func15, Tryz.ntmps15
  go_wp2
  go_ret
  exact ⟨rfl, rfl⟩
set_option maxRecDepth 100000 in
set_option maxHeartbeats 8000000 in
theorem mach_Regs {B N h : Nat} {s : Cpu} {m : Mem} {rom : Int}  (w : World) (hM : MachAt B N h s m rom w) :
    Calls Tryz.prog 8 #[.pointer (some ⟨h, 0, none⟩)] w fun e w' => e = .returned s.now.v ∧ Below w.heap.size w w' := by
  obtain ⟨g, gr, hl, hS⟩ := hM
  have k0 := LBlk.cell hl 0
  have k1 := LBlk.cell hl 1
  simp only [List.getElem?_cons_zero, List.getElem?_cons_succ] at k0 k1
  have hlh := LBlk.lt hl
  obtain ⟨p, lv, pb, cs, hC, _⟩ := hS
  have HC := Lib.hid (cpu_Regs (w.alloc (.cells #[.int .u8 0, .int .u8 0, .int .u8 0, .int .u8 0, .int .u16 0, .int .u16 0, .int .u16 0, .int .u16 0, .int .u16 0] 39)) (hC.alloc (.cells #[.int .u8 0, .int .u8 0, .int .u8 0, .int .u8 0, .int .u16 0, .int .u16 0, .int .u16 0, .int .u16 0, .int .u16 0] 39)))
  have hA0 : LBlk (w.alloc (.cells #[.int .u8 0, .int .u8 0, .int .u8 0, .int .u8 0, .int .u16 0, .int .u16 0, .int .u16 0, .int .u16 0, .int .u16 0] 39)) w.heap.size 39 [.int .u8 0, .int .u8 0, .int .u8 0, .int .u8 0, .int .u16 0, .int .u16 0, .int .u16 0, .int .u16 0, .int .u16 0] := Blk.newAt w 39 _ w.heap.size rfl
  have hb0 : Below w.heap.size w (w.alloc (.cells #[.int .u8 0, .int .u8 0, .int .u8 0, .int .u8 0, .int .u16 0, .int .u16 0, .int .u16 0, .int .u16 0, .int .u16 0] 39)) := below_alloc (Below.refl _ _) _
  go_enter Tryz.func8, Tryz.ntmps8
  go_wp2_with fail
  refine HC.out.mono ?_
  rintro e w1 ⟨rfl, hb1⟩
  have hA1 := LBlk.below hA0 hb1 (LBlk.lt hA0)
  have hbw := below_then hb0 hb1
  clear hA0 hb0 hb1 HC k0 k1
  have n0 := LBlk.cell hA1 0
  have n1 := LBlk.cell hA1 1
  have n2 := LBlk.cell hA1 2
  have n3 := LBlk.cell hA1 3
  have n4 := LBlk.cell hA1 4
  have n5 := LBlk.cell hA1 5
  have n6 := LBlk.cell hA1 6
  have n7 := LBlk.cell hA1 7
  have n8 := LBlk.cell hA1 8
  simp only [List.getElem?_cons_zero, List.getElem?_cons_succ] at n0 n1 n2 n3 n4 n5 n6 n7 n8
  have fr0 := LBlk.frozen hA1 0
  have fr1 := LBlk.frozen hA1 1
  have fr2 := LBlk.frozen hA1 2
  have fr3 := LBlk.frozen hA1 3
  have fr4 := LBlk.frozen hA1 4
  have fr5 := LBlk.frozen hA1 5
  have fr6 := LBlk.frozen hA1 6
  have fr7 := LBlk.frozen hA1 7
  have fr8 := LBlk.frozen hA1 8
  have hln := LBlk.lt hA1
  have hAh := Lib.hid hA1
  clear hA1
  go_wp2
  refine bodyPost_ret (v := s.now.v) ?_ rfl ⟨rfl, ?_⟩
  · exact (results_cell_row rfl _ _ w.heap.size 39 s.now.cells (0, 0) _ rfl (row9_set _ _ _ _ _ _ _ _ _ hAh.out) Tryz.underlying39 rfl (by kernel_rfl)).trans rfl
  · exact below9 hbw (Nat.le_refl _) _ _ _ _ _ _ _ _ _
end Go.Proofs.YtkdaphkpllgmbaaGreat
namespace Go.Proofs.YtkdaphkpllgmbaaGreat
open Go.RowKit Sp
set_option linter.unusedVariables false
set_option linter.unusedSimpArgs false
attribute [local go_sem] Sp.Regs.v Sp.Regs.cells
set_option maxRecDepth 100000 in
set_option maxHeartbeats 4000000 in
theorem arbRight_0 (k : Int) (hk : k = 0 ∨ k = 1) (w : World) :
    Calls Tryz.prog 109 #[.int .i64 k, .agg #[.int .i64 0, .int .i64 0]] w fun e w' => e = .returned (.bool true) ∧ Below w.heap.size w w' := by
  rcases hk with rfl | rfl
  all_goals
    go_enter Tryz.func109, Tryz.ntmps109
    go_wp2
    go_ret
    exact ⟨rfl, (by repeat (first | exact Below.refl _ _ | apply below_alloc | apply Below.drew | apply below_drewN | (refine below_then ?_ (by assumption))))⟩
set_option maxRecDepth 100000 in
set_option maxHeartbeats 4000000 in
theorem cpuRight_0 (k : Int) (hk : k = 0 ∨ k = 1) (w : World) :
    Calls Tryz.prog 69 #[.int .i64 k, .agg #[.int .i64 0, .int .i64 0, .slice none 0 0, .int .u8 0, .int .u8 0, .int .u8 0, .int .u8 0, .int .u16 0, .int .u16 0, .int .u16 0, .int .u16 0, .int .u16 0, .bool false, .bool false, .bool false, .int .i64 0, .int .i64 0]] w fun e w' => e = .returned (.bool true) ∧ Below w.heap.size w w' := by
  have HR := Lib.hid (fun W => arbRight_0 k hk W)
  have hb0 : Below w.heap.size w (w.alloc (.cells #[.int .i64 0, .int .i64 0, .slice none 0 0, .int .u8 0, .int .u8 0, .int .u8 0, .int .u8 0, .int .u16 0, .int .u16 0, .int .u16 0, .int .u16 0, .int .u16 0, .bool false, .bool false, .bool false, .int .i64 0, .int .i64 0] 69)) := below_alloc (Below.refl _ _) _
  have hZ := Blk.newAt w 69 #[.int .i64 0, .int .i64 0, .slice none 0 0, .int .u8 0, .int .u8 0, .int .u8 0, .int .u8 0, .int .u16 0, .int .u16 0, .int .u16 0, .int .u16 0, .int .u16 0, .bool false, .bool false, .bool false, .int .i64 0, .int .i64 0] w.heap.size rfl
  clear hk
  go_enter Tryz.func69, Tryz.ntmps69
  go_wp2_with fail
  generalize w.alloc (.cells #[.int .i64 0, .int .i64 0, .slice none 0 0, .int .u8 0, .int .u8 0, .int .u8 0, .int .u8 0, .int .u16 0, .int .u16 0, .int .u16 0, .int .u16 0, .int .u16 0, .bool false, .bool false, .bool false, .int .i64 0, .int .i64 0] 69) = w0 at *
  refine (HR.out _).mono ?_
  rintro e w1 ⟨rfl, hb1⟩
  have hZ1 := hZ.below hb1 hZ.lt
  have z0 := hZ1.cell 0
  have z1 := hZ1.cell 1
  have z2 := hZ1.cell 2
  have z13 := hZ1.cell 13
  have z14 := hZ1.cell 14
  simp only [List.getElem?_toArray, List.getElem?_cons_zero, List.getElem?_cons_succ] at z0 z1 z2 z13 z14
  have hlz := hZ1.lt
  clear hZ
  go_wp2
  go_ret
  exact ⟨rfl, below_then hb0 hb1⟩
set_option maxRecDepth 100000 in
set_option maxHeartbeats 4000000 in
theorem cpuRestore_0 (B : Nat) (k : Int) (hk : k = 0 ∨ k = 1) (w : World) (hB : B ≤ w.heap.size) :
    Calls Tryz.prog 41 #[.int .i64 k, .agg #[.int .i64 0, .int .i64 0, .slice none 0 0, .int .u8 0, .int .u8 0, .int .u8 0, .int .u8 0, .int .u16 0, .int .u16 0, .int .u16 0, .int .u16 0, .int .u16 0, .bool false, .bool false, .bool false, .int .i64 0, .int .i64 0]] w fun e w' => (∃ g p, e = .returned (.tuple #[.pointer (some ⟨g, 0, none⟩), .int .i64 0]) ∧ CpuIn B 0 g p (.slice none 0 0) (Cpu.new k) w') ∧ Below w.heap.size w w' := by
  have HR := Lib.hid (fun W => cpuRight_0 k hk W)
  have hb0 : Below w.heap.size w (w.alloc (.cells #[.int .i64 0, .int .i64 0, .slice none 0 0, .int .u8 0, .int .u8 0, .int .u8 0, .int .u8 0, .int .u16 0, .int .u16 0, .int .u16 0, .int .u16 0, .int .u16 0, .bool false, .bool false, .bool false, .int .i64 0, .int .i64 0] 69)) := below_alloc (Below.refl _ _) _
  have hZ := Blk.newAt w 69 #[.int .i64 0, .int .i64 0, .slice none 0 0, .int .u8 0, .int .u8 0, .int .u8 0, .int .u8 0, .int .u16 0, .int .u16 0, .int .u16 0, .int .u16 0, .int .u16 0, .bool false, .bool false, .bool false, .int .i64 0, .int .i64 0] w.heap.size rfl
  have q1 : ((k == 0) = true) ∨ ((k == 0) = false ∧ (k == 1) = true) := by rcases hk with rfl | rfl <;> decide
  have hkk := Lib.hid hk
  clear hk
  go_enter Tryz.func41, Tryz.ntmps41
  rcases hkk.out with rfl | rfl
  · clear q1
    go_wp2_with fail
    generalize w.alloc (.cells #[.int .i64 0, .int .i64 0, .slice none 0 0, .int .u8 0, .int .u8 0, .int .u8 0, .int .u8 0, .int .u16 0, .int .u16 0, .int .u16 0, .int .u16 0, .int .u16 0, .bool false, .bool false, .bool false, .int .i64 0, .int .i64 0] 69) = w0 at *
    refine (HR.out _).mono ?_
    rintro e w1 ⟨rfl, hb1⟩
    have hZ1 := hZ.below hb1 hZ.lt
    have hbw := below_then hb0 hb1
    have z0 := hZ1.cell 0
    have z1 := hZ1.cell 1
    have z2 := hZ1.cell 2
    have z3 := hZ1.cell 3
    have z4 := hZ1.cell 4
    have z5 := hZ1.cell 5
    have z6 := hZ1.cell 6
    have z7 := hZ1.cell 7
    have z8 := hZ1.cell 8
    have z9 := hZ1.cell 9
    have z10 := hZ1.cell 10
    have z11 := hZ1.cell 11
    have z12 := hZ1.cell 12
    have z13 := hZ1.cell 13
    have z14 := hZ1.cell 14
    have z15 := hZ1.cell 15
    have z16 := hZ1.cell 16
    simp only [List.getElem?_toArray, List.getElem?_cons_zero, List.getElem?_cons_succ] at z0 z1 z2 z3 z4 z5 z6 z7 z8 z9 z10 z11 z12 z13 z14 z15 z16
    have hlz := hZ1.lt
    clear hZ hb0 hb1 HR
    have hZd := Lib.hid (Blk.drew hZ1)
    have hbd := Lib.hid hbw.drew
    have HN := Lib.hid (fun W => New_t (⟨0, 0, 0, 0, 0, 0, 0, 0, 0⟩ : Sp.Regs) W)
    go_upto_region 3 with fail
    go_region_held3 (fun W => W.cell? ⟨w.heap.size, 0, none⟩ = some (.int .i64 0) ∧ W.cell? ⟨w.heap.size, 1, none⟩ = some (.int .i64 0) ∧ W.cell? ⟨w.heap.size, 3, none⟩ = some (.int .u8 0) ∧ W.cell? ⟨w.heap.size, 4, none⟩ = some (.int .u8 0) ∧ W.cell? ⟨w.heap.size, 5, none⟩ = some (.int .u8 0) ∧ W.cell? ⟨w.heap.size, 6, none⟩ = some (.int .u8 0) ∧ W.cell? ⟨w.heap.size, 7, none⟩ = some (.int .u16 0) ∧ W.cell? ⟨w.heap.size, 8, none⟩ = some (.int .u16 0) ∧ W.cell? ⟨w.heap.size, 9, none⟩ = some (.int .u16 0) ∧ W.cell? ⟨w.heap.size, 10, none⟩ = some (.int .u16 0) ∧ W.cell? ⟨w.heap.size, 11, none⟩ = some (.int .u16 0) ∧ W.cell? ⟨w.heap.size, 12, none⟩ = some (.bool false) ∧ W.cell? ⟨w.heap.size, 13, none⟩ = some (.bool false) ∧ W.cell? ⟨w.heap.size, 14, none⟩ = some (.bool false) ∧ W.cell? ⟨w.heap.size, 15, none⟩ = some (.int .i64 0) ∧ W.cell? ⟨w.heap.size, 16, none⟩ = some (.int .i64 0)) (first | with_reducible exact ⟨y0, y1, y3, y4, y5, y6, y7, y8, y9, y10, y11, y12, y13, y14, y15, y16⟩ | (go_keep; done)) (first | (go_at_call 70; refine (HN.out _).mono ?_; rintro e w3 ⟨rfl, hK, hb3⟩; have hZ3 := hZd.out.below hb3 hZd.out.lt; have y0 := hZ3.cell 0; have y1 := hZ3.cell 1; have y3 := hZ3.cell 3; have y4 := hZ3.cell 4; have y5 := hZ3.cell 5; have y6 := hZ3.cell 6; have y7 := hZ3.cell 7; have y8 := hZ3.cell 8; have y9 := hZ3.cell 9; have y10 := hZ3.cell 10; have y11 := hZ3.cell 11; have y12 := hZ3.cell 12; have y13 := hZ3.cell 13; have y14 := hZ3.cell 14; have y15 := hZ3.cell 15; have y16 := hZ3.cell 16; simp only [List.getElem?_toArray, List.getElem?_cons_zero, List.getElem?_cons_succ] at y0 y1 y3 y4 y5 y6 y7 y8 y9 y10 y11 y12 y13 y14 y15 y16; have hlz3 := hZ3.lt))
    all_goals
      have hbz := below_then hbd.out hb3
      have hsz := hbz.size
      go_wp2
      go_ret2
      have hfin : LBlk (w3.alloc (.cells (cpuL (Cpu.new 0) (.slice none 0 0) (w1.drew.heap.size + 1)).toArray 97)) w3.heap.size 97 (cpuL (Cpu.new 0) (.slice none 0 0) (w1.drew.heap.size + 1)) := Blk.newAt w3 97 _ w3.heap.size rfl
      have hs1 : w.heap.size ≤ w1.drew.heap.size := hbd.out.size
      refine ⟨⟨w3.heap.size, w1.drew.heap.size + 1, rfl, ⟨hfin, hK.below (below_alloc (Below.refl _ _) _), ⟨0, [], own_nil _ _ _ _, Nat.le_refl _⟩, by omega, by omega⟩⟩, hbz.alloc hbz.size _⟩
  · clear q1
    go_wp2_with fail
    generalize w.alloc (.cells #[.int .i64 0, .int .i64 0, .slice none 0 0, .int .u8 0, .int .u8 0, .int .u8 0, .int .u8 0, .int .u16 0, .int .u16 0, .int .u16 0, .int .u16 0, .int .u16 0, .bool false, .bool false, .bool false, .int .i64 0, .int .i64 0] 69) = w0 at *
    refine (HR.out _).mono ?_
    rintro e w1 ⟨rfl, hb1⟩
    have hZ1 := hZ.below hb1 hZ.lt
    have hbw := below_then hb0 hb1
    have z0 := hZ1.cell 0
    have z1 := hZ1.cell 1
    have z2 := hZ1.cell 2
    have z3 := hZ1.cell 3
    have z4 := hZ1.cell 4
    have z5 := hZ1.cell 5
    have z6 := hZ1.cell 6
    have z7 := hZ1.cell 7
    have z8 := hZ1.cell 8
    have z9 := hZ1.cell 9
    have z10 := hZ1.cell 10
    have z11 := hZ1.cell 11
    have z12 := hZ1.cell 12
    have z13 := hZ1.cell 13
    have z14 := hZ1.cell 14
    have z15 := hZ1.cell 15
    have z16 := hZ1.cell 16
    simp only [List.getElem?_toArray, List.getElem?_cons_zero, List.getElem?_cons_succ] at z0 z1 z2 z3 z4 z5 z6 z7 z8 z9 z10 z11 z12 z13 z14 z15 z16
    have hlz := hZ1.lt
    clear hZ hb0 hb1 HR
    have hZd := Lib.hid (Blk.drew hZ1)
    have hbd := Lib.hid hbw.drew
    have HN := Lib.hid (fun W => New_t (⟨0, 0, 0, 0, 0, 0, 0, 0, 0⟩ : Sp.Regs) W)
    go_upto_region 3 with fail
    go_region_held3 (fun W => W.cell? ⟨w.heap.size, 0, none⟩ = some (.int .i64 0) ∧ W.cell? ⟨w.heap.size, 1, none⟩ = some (.int .i64 0) ∧ W.cell? ⟨w.heap.size, 3, none⟩ = some (.int .u8 0) ∧ W.cell? ⟨w.heap.size, 4, none⟩ = some (.int .u8 0) ∧ W.cell? ⟨w.heap.size, 5, none⟩ = some (.int .u8 0) ∧ W.cell? ⟨w.heap.size, 6, none⟩ = some (.int .u8 0) ∧ W.cell? ⟨w.heap.size, 7, none⟩ = some (.int .u16 0) ∧ W.cell? ⟨w.heap.size, 8, none⟩ = some (.int .u16 0) ∧ W.cell? ⟨w.heap.size, 9, none⟩ = some (.int .u16 0) ∧ W.cell? ⟨w.heap.size, 10, none⟩ = some (.int .u16 0) ∧ W.cell? ⟨w.heap.size, 11, none⟩ = some (.int .u16 0) ∧ W.cell? ⟨w.heap.size, 12, none⟩ = some (.bool false) ∧ W.cell? ⟨w.heap.size, 13, none⟩ = some (.bool false) ∧ W.cell? ⟨w.heap.size, 14, none⟩ = some (.bool false) ∧ W.cell? ⟨w.heap.size, 15, none⟩ = some (.int .i64 0) ∧ W.cell? ⟨w.heap.size, 16, none⟩ = some (.int .i64 0)) (first | with_reducible exact ⟨y0, y1, y3, y4, y5, y6, y7, y8, y9, y10, y11, y12, y13, y14, y15, y16⟩ | (go_keep; done)) (first | (go_at_call 70; refine (HN.out _).mono ?_; rintro e w3 ⟨rfl, hK, hb3⟩; have hZ3 := hZd.out.below hb3 hZd.out.lt; have y0 := hZ3.cell 0; have y1 := hZ3.cell 1; have y3 := hZ3.cell 3; have y4 := hZ3.cell 4; have y5 := hZ3.cell 5; have y6 := hZ3.cell 6; have y7 := hZ3.cell 7; have y8 := hZ3.cell 8; have y9 := hZ3.cell 9; have y10 := hZ3.cell 10; have y11 := hZ3.cell 11; have y12 := hZ3.cell 12; have y13 := hZ3.cell 13; have y14 := hZ3.cell 14; have y15 := hZ3.cell 15; have y16 := hZ3.cell 16; simp only [List.getElem?_toArray, List.getElem?_cons_zero, List.getElem?_cons_succ] at y0 y1 y3 y4 y5 y6 y7 y8 y9 y10 y11 y12 y13 y14 y15 y16; have hlz3 := hZ3.lt))
    all_goals
      have hbz := below_then hbd.out hb3
      have hsz := hbz.size
      go_wp2
      go_ret2
      have hfin : LBlk (w3.alloc (.cells (cpuL (Cpu.new 1) (.slice none 0 0) (w1.drew.heap.size + 1)).toArray 97)) w3.heap.size 97 (cpuL (Cpu.new 1) (.slice none 0 0) (w1.drew.heap.size + 1)) := Blk.newAt w3 97 _ w3.heap.size rfl
      have hs1 : w.heap.size ≤ w1.drew.heap.size := hbd.out.size
      refine ⟨⟨w3.heap.size, w1.drew.heap.size + 1, rfl, ⟨hfin, hK.below (below_alloc (Below.refl _ _) _), ⟨0, [], own_nil _ _ _ _, Nat.le_refl _⟩, by omega, by omega⟩⟩, hbz.alloc hbz.size _⟩
end Go.Proofs.YtkdaphkpllgmbaaGreat

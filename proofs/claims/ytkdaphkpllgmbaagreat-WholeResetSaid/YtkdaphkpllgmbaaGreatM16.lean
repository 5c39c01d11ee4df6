/-
  Contract of the core's pull.
-/
import Derived.Test.YtkdaphkpllgmbaaGreatM13
import Derived.Test.YtkdaphkpllgmbaaGreatM15
import Derived.Deep.RegionWith
namespace Go.Proofs.YtkdaphkpllgmbaaGreat
open Go.RowKit Sp
set_option linter.unusedVariables false
set_option linter.unusedSimpArgs false
attribute [local go_sem] Sp.Regs.v Sp.Regs.cells
theorem CoreAt.set_regs {p : Nat} {s : Core} {w : World} (h : CoreAt p s w) (q : Regs) : CoreAt p { s with r := q } (((((((((w.setCell ⟨p, 0, none⟩ (.int .u8 (q.a.toNat : Int))).setCell ⟨p, 1, none⟩ (.int .u8 (q.b.toNat : Int))).setCell ⟨p, 2, none⟩ (.int .u8 (q.dp.toNat : Int))).setCell ⟨p, 3, none⟩ (.int .u8 (q.cc.toNat : Int))).setCell ⟨p, 4, none⟩ (.int .u16 (q.x.toNat : Int))).setCell ⟨p, 5, none⟩ (.int .u16 (q.y.toNat : Int))).setCell ⟨p, 6, none⟩ (.int .u16 (q.u.toNat : Int))).setCell ⟨p, 7, none⟩ (.int .u16 (q.s.toNat : Int))).setCell ⟨p, 8, none⟩ (.int .u16 (q.pc.toNat : Int))) := (((((((((h.set_a q.a).set_b q.b).set_dp q.dp).set_cc q.cc).set_x q.x).set_y q.y).set_u q.u).set_s q.s).set_pc q.pc)
theorem grown_regs (w : World) {p : Nat} {w1 : World} (h : w.grownBy w1 (some p)) (q : Regs) : w.grownBy (((((((((w1.setCell ⟨p, 0, none⟩ (.int .u8 (q.a.toNat : Int))).setCell ⟨p, 1, none⟩ (.int .u8 (q.b.toNat : Int))).setCell ⟨p, 2, none⟩ (.int .u8 (q.dp.toNat : Int))).setCell ⟨p, 3, none⟩ (.int .u8 (q.cc.toNat : Int))).setCell ⟨p, 4, none⟩ (.int .u16 (q.x.toNat : Int))).setCell ⟨p, 5, none⟩ (.int .u16 (q.y.toNat : Int))).setCell ⟨p, 6, none⟩ (.int .u16 (q.u.toNat : Int))).setCell ⟨p, 7, none⟩ (.int .u16 (q.s.toNat : Int))).setCell ⟨p, 8, none⟩ (.int .u16 (q.pc.toNat : Int))) (some p) := (grown_set w (grown_set w (grown_set w (grown_set w (grown_set w (grown_set w (grown_set w (grown_set w (grown_set w h 0 _) 1 _) 2 _) 3 _) 4 _) 5 _) 6 _) 7 _) 8 _)
theorem Order_128 (w : World) : Calls Tryz.prog 154 #[.int .u8 128, .int .i64 4] w (OwnParts (order 128 4) w) := Order_t 128 4 w
theorem Order_254 (w : World) : Calls Tryz.prog 154 #[.int .u8 254, .int .i64 4] w (OwnParts (order 254 4) w) := Order_t 254 4 w
set_option maxRecDepth 100000 in
set_option maxHeartbeats 1000000 in
theorem pull_1 {p : Nat} {s : Core} (x : Part) (l : List Part) (b : UInt8) (w : World) (hC : CoreAt p s w) (hl : s.list = x :: l) (hop : s.e.op ≠ 49) :
    Calls Tryz.prog 148 #[.pointer (some ⟨p, 0, none⟩), .int .u8 (b.toNat : Int)] w fun e w' => e = .returned (.tuple #[]) ∧ CoreAt p ({ s with list := l, r := (s.r.set s.stack (plusW s.top 1)).put x b }) w' ∧ w.grownBy w' (some p) := by
  have hC0 := Lib.hid hC
  have hlt := hC.lt
  have e1 := plus1_e
  have bop : (s.e.op != 49) = true := bne_iff_ne.mpr hop
  obtain ⟨xr, xh⟩ := x
  obtain ⟨R1, hR1⟩ : ∃ R1, s.r.set s.stack (plusW s.top 1) = R1 := ⟨_, rfl⟩
  rw [hR1]
  obtain ⟨q, hq⟩ : ∃ q, R1.put ⟨xr, xh⟩ b = q := ⟨_, rfl⟩
  have HWI := Lib.hid (fun W => With_t R1 xr xh b W)
  rw [hq] at HWI ⊢
  have HR1 := Lib.hid hR1
  clear hR1 hq
  obtain ⟨ring, qa, lA, lc, hI⟩ := hC
  have hok := hI.list
  have hcap := hI.cap
  rw [hl] at hok hcap
  obtain ⟨g, off, rfl, p0, p1, hgw⟩ := hok.head
  have htl := hok.tail
  have F := core_facts hI
  rw [hl] at F
  simp only [List.length_cons] at F hcap
  obtain ⟨m, hm⟩ : ∃ m, l.length = m := ⟨_, rfl⟩
  rw [hm] at F hcap
  have HM := Lib.hid hm
  have HTL := Lib.hid htl
  have HI := Lib.hid hI
  clear hI hok htl hm hl
  have hlc : 1 ≤ lc := by omega
  by_cases hc1 : lc = 1
  · subst hc1
    obtain rfl : m = 0 := by omega
    have hnil : l = [] := List.eq_nil_of_length_eq_zero HM.out
    have HNIL := Lib.hid hnil
    clear hnil
    go_enter Tryz.func148, Tryz.ntmps148
    go_wp2
    have hW0 := CoreAt.set_list (show CoreAt p s w from ⟨_, _, _, _, HI.out⟩) (some ⟨g, off, none⟩) 0 l (HNIL.out ▸ ListOk.nil_ _ _) (by rw [HM.out]; omega)
    rw [HM.out] at hW0
    have hW := hW0.alloc (.cells #[.int .i64 xr, .bool xh] 219)
    have hgW := grown_alloc w (grown_set w (World.grownBy.refl w (some p)) 70 (.slice (some ⟨g, off, none⟩) 0 0)) (.cells #[.int .i64 xr, .bool xh] 219)
    have hB := Blk.newAt (w.setCell ⟨p, 70, none⟩ (.slice (some ⟨g, off, none⟩) 0 0)) 219 #[.int .i64 xr, .bool xh] w.heap.size (by simp)
    generalize (w.setCell ⟨p, 70, none⟩ (.slice (some ⟨g, off, none⟩) 0 0)).alloc (.cells #[.int .i64 xr, .bool xh] 219) = w0 at *
    have hltW := hW.lt
    have hpb : p ≠ w.heap.size := by omega
    have HCL := Lib.hid hW
    clear F p0 p1 hgw hW0
    obtain ⟨ring0, qa0, lA0, lc0, hI0⟩ := id hW; have F0 := core_facts hI0
    clear hI0 hW
    go_region_held3 (fun W => W.cell? ⟨p, 71, none⟩ = some (.int .i64 s.stack)) (first | (go_keep; done) | assumption | (simp [*, set_far, World.cell?_alloc_some, World.cell?_setCell_far]; done)) (first | (go_at_call 116; refine (top_t _ (CoreAt.below HCL.out (by repeat (first | exact Below.refl _ _ | apply below_alloc | apply Below.drew | apply below_drewN | (refine below_then ?_ (by assumption)))))).mono ?_; rintro e w1 ⟨rfl, n, rfl⟩) | (go_at_call 147; refine (Set_core _ _ _ (CoreAt.below HCL.out (by repeat (first | exact Below.refl _ _ | apply below_alloc | apply Below.drew | apply below_drewN | (refine below_then ?_ (by assumption)))))).mono ?_; rintro e wS ⟨rfl, hCS, hgS⟩; have kS := hCS.c_stack))
    have hg2 := grown_then (show w.grownBy _ (some p) from by (repeat (with_reducible first | exact World.grownBy.refl _ _ | assumption | apply grown_drew | apply grown_drewN | apply grown_alloc | apply grown_set))) hgS
    have hB2 : Blk wS w.heap.size 219 #[.int .i64 xr, .bool xh] := (hB.below (B := w0.heap.size) (by repeat (first | exact Below.refl _ _ | apply below_alloc | apply Below.drew | apply below_drewN | (refine below_then ?_ (by assumption)))) hB.lt).grown hgS (fun e => by injection e with e; exact hpb e.symm)
    replace hCS : CoreAt p { s with list := l, r := R1 } wS := by rw [← HR1.out]; exact hCS
    clear F0 kS hB
    obtain ⟨ring2, qa2, lA2, lc2, hI2⟩ := id hCS; have F2 := core_facts hI2
    clear hI2
    have b0 := hB2.cell 0
    have b1 := hB2.cell 1
    simp only [List.getElem?_toArray, List.getElem?_cons_zero, List.getElem?_cons_succ] at b0 b1
    have hlt2 := hCS.lt
    have hltb := hB2.lt
    have HCS := Lib.hid hCS
    clear hCS hB2 hgS hgW
    go_wp2
    go_region_with ((go_at_call 174; refine (HWI.out _).mono ?_; rintro e wE ⟨rfl, hbE⟩; have hC3 := CoreAt.below (HCS.out.drew) hbE; obtain ⟨ring3, qa3, lA3, lc3, hI3⟩ := id hC3; have F3 := core_facts hI3))
    all_goals
      have hC4 := CoreAt.set_regs hC3 q
      have hg4 := grown_regs w (grown_then (grown_drew w hg2) (grown_of_below hbE (some p))) q
      have hlt3 := hC3.lt
      have z0 := (hbE.cell (p := ⟨w.heap.size, 0, none⟩) hltb).trans b0
      have HC4 := Lib.hid hC4
      have HG4 := Lib.hid hg4
      clear hC4 hg4
      go_wp2
      first | go_end0 | refine bodyPost_ret (results_none rfl _ _ _) rfl ?_
      exact ⟨rfl, HC4.out, HG4.out⟩
  · have hne1 : 1 ≠ lc := fun e => hc1 e.symm
    go_enter Tryz.func148, Tryz.ntmps148
    go_wp2
    have hW0 := CoreAt.set_list (show CoreAt p s w from ⟨_, _, _, _, HI.out⟩) (some ⟨g, off + 2, none⟩) (lc - 1) l HTL.out (by rw [HM.out]; omega)
    rw [HM.out] at hW0
    have hW := hW0.alloc (.cells #[.int .i64 xr, .bool xh] 219)
    have hgW := grown_alloc w (grown_set w (World.grownBy.refl w (some p)) 70 (.slice (some ⟨g, off + 2, none⟩) m (lc - 1))) (.cells #[.int .i64 xr, .bool xh] 219)
    have hB := Blk.newAt (w.setCell ⟨p, 70, none⟩ (.slice (some ⟨g, off + 2, none⟩) m (lc - 1))) 219 #[.int .i64 xr, .bool xh] w.heap.size (by simp)
    generalize (w.setCell ⟨p, 70, none⟩ (.slice (some ⟨g, off + 2, none⟩) m (lc - 1))).alloc (.cells #[.int .i64 xr, .bool xh] 219) = w0 at *
    have hltW := hW.lt
    have hpb : p ≠ w.heap.size := by omega
    have HCL := Lib.hid hW
    clear F p0 p1 hgw hW0
    obtain ⟨ring0, qa0, lA0, lc0, hI0⟩ := id hW; have F0 := core_facts hI0
    clear hI0 hW
    go_region_held3 (fun W => W.cell? ⟨p, 71, none⟩ = some (.int .i64 s.stack)) (first | (go_keep; done) | assumption | (simp [*, set_far, World.cell?_alloc_some, World.cell?_setCell_far]; done)) (first | (go_at_call 116; refine (top_t _ (CoreAt.below HCL.out (by repeat (first | exact Below.refl _ _ | apply below_alloc | apply Below.drew | apply below_drewN | (refine below_then ?_ (by assumption)))))).mono ?_; rintro e w1 ⟨rfl, n, rfl⟩) | (go_at_call 147; refine (Set_core _ _ _ (CoreAt.below HCL.out (by repeat (first | exact Below.refl _ _ | apply below_alloc | apply Below.drew | apply below_drewN | (refine below_then ?_ (by assumption)))))).mono ?_; rintro e wS ⟨rfl, hCS, hgS⟩; have kS := hCS.c_stack))
    have hg2 := grown_then (show w.grownBy _ (some p) from by (repeat (with_reducible first | exact World.grownBy.refl _ _ | assumption | apply grown_drew | apply grown_drewN | apply grown_alloc | apply grown_set))) hgS
    have hB2 : Blk wS w.heap.size 219 #[.int .i64 xr, .bool xh] := (hB.below (B := w0.heap.size) (by repeat (first | exact Below.refl _ _ | apply below_alloc | apply Below.drew | apply below_drewN | (refine below_then ?_ (by assumption)))) hB.lt).grown hgS (fun e => by injection e with e; exact hpb e.symm)
    replace hCS : CoreAt p { s with list := l, r := R1 } wS := by rw [← HR1.out]; exact hCS
    clear F0 kS hB
    obtain ⟨ring2, qa2, lA2, lc2, hI2⟩ := id hCS; have F2 := core_facts hI2
    clear hI2
    have b0 := hB2.cell 0
    have b1 := hB2.cell 1
    simp only [List.getElem?_toArray, List.getElem?_cons_zero, List.getElem?_cons_succ] at b0 b1
    have hlt2 := hCS.lt
    have hltb := hB2.lt
    have HCS := Lib.hid hCS
    clear hCS hB2 hgS hgW
    go_wp2
    go_region_with ((go_at_call 174; refine (HWI.out _).mono ?_; rintro e wE ⟨rfl, hbE⟩; have hC3 := CoreAt.below (HCS.out.drew) hbE; obtain ⟨ring3, qa3, lA3, lc3, hI3⟩ := id hC3; have F3 := core_facts hI3))
    all_goals
      have hC4 := CoreAt.set_regs hC3 q
      have hg4 := grown_regs w (grown_then (grown_drew w hg2) (grown_of_below hbE (some p))) q
      have hlt3 := hC3.lt
      have z0 := (hbE.cell (p := ⟨w.heap.size, 0, none⟩) hltb).trans b0
      have HC4 := Lib.hid hC4
      have HG4 := Lib.hid hg4
      clear hC4 hg4
      go_wp2
      first | go_end0 | refine bodyPost_ret (results_none rfl _ _ _) rfl ?_
      exact ⟨rfl, HC4.out, HG4.out⟩
set_option maxRecDepth 100000 in
set_option maxHeartbeats 1000000 in
theorem pull_2 {p : Nat} {s : Core} (x : Part) (l : List Part) (b : UInt8) (w : World) (hC : CoreAt p s w) (hl : s.list = x :: l) (hop : s.e.op = 49) (hx : x.reg ≠ 10) :
    Calls Tryz.prog 148 #[.pointer (some ⟨p, 0, none⟩), .int .u8 (b.toNat : Int)] w fun e w' => e = .returned (.tuple #[]) ∧ CoreAt p ({ s with list := l, r := (s.r.set s.stack (plusW s.top 1)).put x b }) w' ∧ w.grownBy w' (some p) := by
  have hC0 := Lib.hid hC
  have hlt := hC.lt
  have e1 := plus1_e
  have bop : (s.e.op != 49) = false := by rw [hop]; rfl
  obtain ⟨xr, xh⟩ := x
  have bx : (xr != 10) = true := bne_iff_ne.mpr hx
  clear hx hop
  obtain ⟨R1, hR1⟩ : ∃ R1, s.r.set s.stack (plusW s.top 1) = R1 := ⟨_, rfl⟩
  rw [hR1]
  obtain ⟨q, hq⟩ : ∃ q, R1.put ⟨xr, xh⟩ b = q := ⟨_, rfl⟩
  have HWI := Lib.hid (fun W => With_t R1 xr xh b W)
  rw [hq] at HWI ⊢
  have HR1 := Lib.hid hR1
  clear hR1 hq
  obtain ⟨ring, qa, lA, lc, hI⟩ := hC
  have hok := hI.list
  have hcap := hI.cap
  rw [hl] at hok hcap
  obtain ⟨g, off, rfl, p0, p1, hgw⟩ := hok.head
  have htl := hok.tail
  have F := core_facts hI
  rw [hl] at F
  simp only [List.length_cons] at F hcap
  obtain ⟨m, hm⟩ : ∃ m, l.length = m := ⟨_, rfl⟩
  rw [hm] at F hcap
  have HM := Lib.hid hm
  have HTL := Lib.hid htl
  have HI := Lib.hid hI
  clear hI hok htl hm hl
  have hlc : 1 ≤ lc := by omega
  by_cases hc1 : lc = 1
  · subst hc1
    obtain rfl : m = 0 := by omega
    have hnil : l = [] := List.eq_nil_of_length_eq_zero HM.out
    have HNIL := Lib.hid hnil
    clear hnil
    go_enter Tryz.func148, Tryz.ntmps148
    go_wp2
    have hW0 := CoreAt.set_list (show CoreAt p s w from ⟨_, _, _, _, HI.out⟩) (some ⟨g, off, none⟩) 0 l (HNIL.out ▸ ListOk.nil_ _ _) (by rw [HM.out]; omega)
    rw [HM.out] at hW0
    have hW := hW0.alloc (.cells #[.int .i64 xr, .bool xh] 219)
    have hgW := grown_alloc w (grown_set w (World.grownBy.refl w (some p)) 70 (.slice (some ⟨g, off, none⟩) 0 0)) (.cells #[.int .i64 xr, .bool xh] 219)
    have hB := Blk.newAt (w.setCell ⟨p, 70, none⟩ (.slice (some ⟨g, off, none⟩) 0 0)) 219 #[.int .i64 xr, .bool xh] w.heap.size (by simp)
    generalize (w.setCell ⟨p, 70, none⟩ (.slice (some ⟨g, off, none⟩) 0 0)).alloc (.cells #[.int .i64 xr, .bool xh] 219) = w0 at *
    have hltW := hW.lt
    have hpb : p ≠ w.heap.size := by omega
    have HCL := Lib.hid hW
    clear F p0 p1 hgw hW0
    obtain ⟨ring0, qa0, lA0, lc0, hI0⟩ := id hW; have F0 := core_facts hI0
    clear hI0 hW
    go_region_held3 (fun W => W.cell? ⟨p, 71, none⟩ = some (.int .i64 s.stack)) (first | (go_keep; done) | assumption | (simp [*, set_far, World.cell?_alloc_some, World.cell?_setCell_far]; done)) (first | (go_at_call 116; refine (top_t _ (CoreAt.below HCL.out (by repeat (first | exact Below.refl _ _ | apply below_alloc | apply Below.drew | apply below_drewN | (refine below_then ?_ (by assumption)))))).mono ?_; rintro e w1 ⟨rfl, n, rfl⟩) | (go_at_call 147; refine (Set_core _ _ _ (CoreAt.below HCL.out (by repeat (first | exact Below.refl _ _ | apply below_alloc | apply Below.drew | apply below_drewN | (refine below_then ?_ (by assumption)))))).mono ?_; rintro e wS ⟨rfl, hCS, hgS⟩; have kS := hCS.c_stack))
    have hg2 := grown_then (show w.grownBy _ (some p) from by (repeat (with_reducible first | exact World.grownBy.refl _ _ | assumption | apply grown_drew | apply grown_drewN | apply grown_alloc | apply grown_set))) hgS
    have hB2 : Blk wS w.heap.size 219 #[.int .i64 xr, .bool xh] := (hB.below (B := w0.heap.size) (by repeat (first | exact Below.refl _ _ | apply below_alloc | apply Below.drew | apply below_drewN | (refine below_then ?_ (by assumption)))) hB.lt).grown hgS (fun e => by injection e with e; exact hpb e.symm)
    replace hCS : CoreAt p { s with list := l, r := R1 } wS := by rw [← HR1.out]; exact hCS
    clear F0 kS hB
    obtain ⟨ring2, qa2, lA2, lc2, hI2⟩ := id hCS; have F2 := core_facts hI2
    clear hI2
    have b0 := hB2.cell 0
    have b1 := hB2.cell 1
    simp only [List.getElem?_toArray, List.getElem?_cons_zero, List.getElem?_cons_succ] at b0 b1
    have hlt2 := hCS.lt
    have hltb := hB2.lt
    have HCS := Lib.hid hCS
    clear hCS hB2 hgS hgW
    go_wp2
    go_region_with ((go_at_call 174; refine (HWI.out _).mono ?_; rintro e wE ⟨rfl, hbE⟩; have hC3 := CoreAt.below (HCS.out.drew) hbE; obtain ⟨ring3, qa3, lA3, lc3, hI3⟩ := id hC3; have F3 := core_facts hI3))
    all_goals
      have hC4 := CoreAt.set_regs hC3 q
      have hg4 := grown_regs w (grown_then (grown_drew w hg2) (grown_of_below hbE (some p))) q
      have hlt3 := hC3.lt
      have z0 := (hbE.cell (p := ⟨w.heap.size, 0, none⟩) hltb).trans b0
      have HC4 := Lib.hid hC4
      have HG4 := Lib.hid hg4
      clear hC4 hg4
      go_wp2
      first | go_end0 | refine bodyPost_ret (results_none rfl _ _ _) rfl ?_
      exact ⟨rfl, HC4.out, HG4.out⟩
  · have hne1 : 1 ≠ lc := fun e => hc1 e.symm
    go_enter Tryz.func148, Tryz.ntmps148
    go_wp2
    have hW0 := CoreAt.set_list (show CoreAt p s w from ⟨_, _, _, _, HI.out⟩) (some ⟨g, off + 2, none⟩) (lc - 1) l HTL.out (by rw [HM.out]; omega)
    rw [HM.out] at hW0
    have hW := hW0.alloc (.cells #[.int .i64 xr, .bool xh] 219)
    have hgW := grown_alloc w (grown_set w (World.grownBy.refl w (some p)) 70 (.slice (some ⟨g, off + 2, none⟩) m (lc - 1))) (.cells #[.int .i64 xr, .bool xh] 219)
    have hB := Blk.newAt (w.setCell ⟨p, 70, none⟩ (.slice (some ⟨g, off + 2, none⟩) m (lc - 1))) 219 #[.int .i64 xr, .bool xh] w.heap.size (by simp)
    generalize (w.setCell ⟨p, 70, none⟩ (.slice (some ⟨g, off + 2, none⟩) m (lc - 1))).alloc (.cells #[.int .i64 xr, .bool xh] 219) = w0 at *
    have hltW := hW.lt
    have hpb : p ≠ w.heap.size := by omega
    have HCL := Lib.hid hW
    clear F p0 p1 hgw hW0
    obtain ⟨ring0, qa0, lA0, lc0, hI0⟩ := id hW; have F0 := core_facts hI0
    clear hI0 hW
    go_region_held3 (fun W => W.cell? ⟨p, 71, none⟩ = some (.int .i64 s.stack)) (first | (go_keep; done) | assumption | (simp [*, set_far, World.cell?_alloc_some, World.cell?_setCell_far]; done)) (first | (go_at_call 116; refine (top_t _ (CoreAt.below HCL.out (by repeat (first | exact Below.refl _ _ | apply below_alloc | apply Below.drew | apply below_drewN | (refine below_then ?_ (by assumption)))))).mono ?_; rintro e w1 ⟨rfl, n, rfl⟩) | (go_at_call 147; refine (Set_core _ _ _ (CoreAt.below HCL.out (by repeat (first | exact Below.refl _ _ | apply below_alloc | apply Below.drew | apply below_drewN | (refine below_then ?_ (by assumption)))))).mono ?_; rintro e wS ⟨rfl, hCS, hgS⟩; have kS := hCS.c_stack))
    have hg2 := grown_then (show w.grownBy _ (some p) from by (repeat (with_reducible first | exact World.grownBy.refl _ _ | assumption | apply grown_drew | apply grown_drewN | apply grown_alloc | apply grown_set))) hgS
    have hB2 : Blk wS w.heap.size 219 #[.int .i64 xr, .bool xh] := (hB.below (B := w0.heap.size) (by repeat (first | exact Below.refl _ _ | apply below_alloc | apply Below.drew | apply below_drewN | (refine below_then ?_ (by assumption)))) hB.lt).grown hgS (fun e => by injection e with e; exact hpb e.symm)
    replace hCS : CoreAt p { s with list := l, r := R1 } wS := by rw [← HR1.out]; exact hCS
    clear F0 kS hB
    obtain ⟨ring2, qa2, lA2, lc2, hI2⟩ := id hCS; have F2 := core_facts hI2
    clear hI2
    have b0 := hB2.cell 0
    have b1 := hB2.cell 1
    simp only [List.getElem?_toArray, List.getElem?_cons_zero, List.getElem?_cons_succ] at b0 b1
    have hlt2 := hCS.lt
    have hltb := hB2.lt
    have HCS := Lib.hid hCS
    clear hCS hB2 hgS hgW
    go_wp2
    go_region_with ((go_at_call 174; refine (HWI.out _).mono ?_; rintro e wE ⟨rfl, hbE⟩; have hC3 := CoreAt.below (HCS.out.drew) hbE; obtain ⟨ring3, qa3, lA3, lc3, hI3⟩ := id hC3; have F3 := core_facts hI3))
    all_goals
      have hC4 := CoreAt.set_regs hC3 q
      have hg4 := grown_regs w (grown_then (grown_drew w hg2) (grown_of_below hbE (some p))) q
      have hlt3 := hC3.lt
      have z0 := (hbE.cell (p := ⟨w.heap.size, 0, none⟩) hltb).trans b0
      have HC4 := Lib.hid hC4
      have HG4 := Lib.hid hg4
      clear hC4 hg4
      go_wp2
      first | go_end0 | refine bodyPost_ret (results_none rfl _ _ _) rfl ?_
      exact ⟨rfl, HC4.out, HG4.out⟩
theorem rest_small (b : UInt8) : (rest b).length ≤ 1048576 := by
  unfold rest
  have h1 := some_len 9 11
  have h2 := some_len 9 2
  have h3 := some_len 10 1
  rw [List.length_append]
  split <;> omega
set_option maxRecDepth 100000 in
set_option maxHeartbeats 4000000 in
theorem pull_3 {p : Nat} {s : Core} (x : Part) (l : List Part) (b : UInt8) (w : World) (hC : CoreAt p s w) (hl : s.list = x :: l) (hop : s.e.op = 49) (hx : x.reg = 10) :
    Calls Tryz.prog 148 #[.pointer (some ⟨p, 0, none⟩), .int .u8 (b.toNat : Int)] w fun e w' => e = .returned (.tuple #[]) ∧ CoreAt p (({ s with list := (if hb b 128 then order 254 4 else order 128 4), r := (s.r.set s.stack (plusW s.top 1)).put x b } : Core).push (rest b)) w' ∧ w.grownBy w' (some p) := by
  have hC0 := Lib.hid hC
  have hlt := hC.lt
  have e1 := plus1_e
  have bop : (s.e.op != 49) = false := by rw [hop]; rfl
  obtain ⟨xr, xh⟩ := x
  obtain rfl : xr = 10 := hx
  clear hop
  obtain ⟨t, ht⟩ : ∃ t, hb b 128 = t := ⟨_, rfl⟩
  have HH := Lib.hid (fun t W g hg => Has_128 b t W g hg)
  rw [ht] at HH ⊢
  clear ht
  obtain ⟨R1, hR1⟩ : ∃ R1, s.r.set s.stack (plusW s.top 1) = R1 := ⟨_, rfl⟩
  rw [hR1]
  obtain ⟨q, hq⟩ : ∃ q, R1.put ⟨10, xh⟩ b = q := ⟨_, rfl⟩
  have HWI := Lib.hid (fun W => With_t R1 10 xh b W)
  rw [hq] at HWI ⊢
  have HR1 := Lib.hid hR1
  clear hR1 hq
  obtain ⟨ring, qa, lA, lc, hI⟩ := hC
  have hok := hI.list
  have hcap := hI.cap
  rw [hl] at hok hcap
  obtain ⟨g, off, rfl, p0, p1, hgw⟩ := hok.head
  have htl := hok.tail
  have F := core_facts hI
  rw [hl] at F
  simp only [List.length_cons] at F hcap
  obtain ⟨m, hm⟩ : ∃ m, l.length = m := ⟨_, rfl⟩
  rw [hm] at F hcap
  have HM := Lib.hid hm
  have HTL := Lib.hid htl
  have HI := Lib.hid hI
  clear hI hok htl hm hl
  have hlc : 1 ≤ lc := by omega
  by_cases hc1 : lc = 1
  · subst hc1
    obtain rfl : m = 0 := by omega
    have hnil : l = [] := List.eq_nil_of_length_eq_zero HM.out
    have HNIL := Lib.hid hnil
    clear hnil
    go_enter Tryz.func148, Tryz.ntmps148
    go_wp2
    have hW0 := CoreAt.set_list (show CoreAt p s w from ⟨_, _, _, _, HI.out⟩) (some ⟨g, off, none⟩) 0 l (HNIL.out ▸ ListOk.nil_ _ _) (by rw [HM.out]; omega)
    rw [HM.out] at hW0
    have hW := hW0.alloc (.cells #[.int .i64 10, .bool xh] 219)
    have hgW := grown_alloc w (grown_set w (World.grownBy.refl w (some p)) 70 (.slice (some ⟨g, off, none⟩) 0 0)) (.cells #[.int .i64 10, .bool xh] 219)
    have hB := Blk.newAt (w.setCell ⟨p, 70, none⟩ (.slice (some ⟨g, off, none⟩) 0 0)) 219 #[.int .i64 10, .bool xh] w.heap.size (by simp)
    generalize (w.setCell ⟨p, 70, none⟩ (.slice (some ⟨g, off, none⟩) 0 0)).alloc (.cells #[.int .i64 10, .bool xh] 219) = w0 at *
    have hltW := hW.lt
    have hpb : p ≠ w.heap.size := by omega
    have HCL := Lib.hid hW
    clear F p0 p1 hgw hW0
    obtain ⟨ring0, qa0, lA0, lc0, hI0⟩ := id hW; have F0 := core_facts hI0
    clear hI0 hW
    go_region_held3 (fun W => W.cell? ⟨p, 71, none⟩ = some (.int .i64 s.stack)) (first | (go_keep; done) | assumption | (simp [*, set_far, World.cell?_alloc_some, World.cell?_setCell_far]; done)) (first | (go_at_call 116; refine (top_t _ (CoreAt.below HCL.out (by repeat (first | exact Below.refl _ _ | apply below_alloc | apply Below.drew | apply below_drewN | (refine below_then ?_ (by assumption)))))).mono ?_; rintro e w1 ⟨rfl, n, rfl⟩) | (go_at_call 147; refine (Set_core _ _ _ (CoreAt.below HCL.out (by repeat (first | exact Below.refl _ _ | apply below_alloc | apply Below.drew | apply below_drewN | (refine below_then ?_ (by assumption)))))).mono ?_; rintro e wS ⟨rfl, hCS, hgS⟩; have kS := hCS.c_stack))
    have hg2 := grown_then (show w.grownBy _ (some p) from by (repeat (with_reducible first | exact World.grownBy.refl _ _ | assumption | apply grown_drew | apply grown_drewN | apply grown_alloc | apply grown_set))) hgS
    have hB2 : Blk wS w.heap.size 219 #[.int .i64 10, .bool xh] := (hB.below (B := w0.heap.size) (by repeat (first | exact Below.refl _ _ | apply below_alloc | apply Below.drew | apply below_drewN | (refine below_then ?_ (by assumption)))) hB.lt).grown hgS (fun e => by injection e with e; exact hpb e.symm)
    replace hCS : CoreAt p { s with list := l, r := R1 } wS := by rw [← HR1.out]; exact hCS
    clear F0 kS hB
    obtain ⟨ring2, qa2, lA2, lc2, hI2⟩ := id hCS; have F2 := core_facts hI2
    clear hI2
    have b0 := hB2.cell 0
    have b1 := hB2.cell 1
    simp only [List.getElem?_toArray, List.getElem?_cons_zero, List.getElem?_cons_succ] at b0 b1
    have hlt2 := hCS.lt
    have hltb := hB2.lt
    have HCS := Lib.hid hCS
    clear hCS hB2 hgS hgW
    go_wp2
    go_region_with ((go_at_call 174; refine (HWI.out _).mono ?_; rintro e wE ⟨rfl, hbE⟩; have hC3 := CoreAt.below (HCS.out.drew) hbE; obtain ⟨ring3, qa3, lA3, lc3, hI3⟩ := id hC3; have F3 := core_facts hI3))
    all_goals
      have hC4 := CoreAt.set_regs hC3 q
      have hg4 := grown_regs w (grown_then (grown_drew w hg2) (grown_of_below hbE (some p))) q
      have hlt3 := hC3.lt
      have z0 := (hbE.cell (p := ⟨w.heap.size, 0, none⟩) hltb).trans b0
      have HC4 := Lib.hid hC4
      have HG4 := Lib.hid hg4
      clear hC4 hg4
      have z4 : ((((((((((wE.setCell ⟨p, 0, none⟩ (.int .u8 (q.a.toNat : Int))).setCell ⟨p, 1, none⟩ (.int .u8 (q.b.toNat : Int))).setCell ⟨p, 2, none⟩ (.int .u8 (q.dp.toNat : Int))).setCell ⟨p, 3, none⟩ (.int .u8 (q.cc.toNat : Int))).setCell ⟨p, 4, none⟩ (.int .u16 (q.x.toNat : Int))).setCell ⟨p, 5, none⟩ (.int .u16 (q.y.toNat : Int))).setCell ⟨p, 6, none⟩ (.int .u16 (q.u.toNat : Int))).setCell ⟨p, 7, none⟩ (.int .u16 (q.s.toNat : Int))).setCell ⟨p, 8, none⟩ (.int .u16 (q.pc.toNat : Int)))).cell? ⟨w.heap.size, 0, none⟩ = some (.int .i64 10) := by simp [World.cell?_setCell_far, hpb]; exact z0
      generalize (((((((((wE.setCell ⟨p, 0, none⟩ (.int .u8 (q.a.toNat : Int))).setCell ⟨p, 1, none⟩ (.int .u8 (q.b.toNat : Int))).setCell ⟨p, 2, none⟩ (.int .u8 (q.dp.toNat : Int))).setCell ⟨p, 3, none⟩ (.int .u8 (q.cc.toNat : Int))).setCell ⟨p, 4, none⟩ (.int .u16 (q.x.toNat : Int))).setCell ⟨p, 5, none⟩ (.int .u16 (q.y.toNat : Int))).setCell ⟨p, 6, none⟩ (.int .u16 (q.u.toNat : Int))).setCell ⟨p, 7, none⟩ (.int .u16 (q.s.toNat : Int))).setCell ⟨p, 8, none⟩ (.int .u16 (q.pc.toNat : Int))) = W4 at *
      clear F3 hC3 hI3
      obtain ⟨ring4, qa4, lA4, lc4, hI4⟩ := id HC4.out; have F4 := core_facts hI4
      clear hI4
      have hlt4 := HC4.out.lt
      go_wp2_with fail
      refine (Order_128 _).mono ?_
      rintro e w5 ho
      obtain ⟨oA5, oc5, rfl, hown5, hb5⟩ := ho.open_
      clear ho
      have hC5 := CoreAt.below HC4.out hb5
      have hg5 := grown_then HG4.out (grown_of_below hb5 (some p))
      clear F4
      obtain ⟨ring5, qa5, lA5, lc5, hI5⟩ := id hC5; have F5 := core_facts hI5
      clear hI5
      have hC6 := Lib.hid (CoreAt.set_list hC5 oA5 oc5 _ (ListOk.own hown5) (own_cap hown5))
      have hg6 := Lib.hid (grown_set w hg5 70 (.slice oA5 (order 128 4).length oc5))
      have hlt5 := hC5.lt
      clear hC5 hg5 hown5 hb5
      go_wp2_with fail
      refine (HH.out _ _ _ (by first | rfl | simp)).mono ?_
      rintro e w6 ⟨rfl, rfl⟩
      cases t
      · have hC7 := Lib.hid (hC6.out.alloc (.cells #[.int .u8 128] 5))
        have hg7 := Lib.hid (grown_alloc w hg6.out (.cells #[.int .u8 128] 5))
        go_wp2
        go_region_held3 (fun _ => True) (first | trivial | (go_keep; done)) (first | (go_at_call 175; refine (rest_t b _).mono ?_; rintro e w8 ho; obtain ⟨A8, c8, rfl, hown8, hb8⟩ := ho.open_; clear ho; obtain ⟨A8', c8', hAc8, hr8, _, _⟩ := own_reads hown8; injection hAc8 with hA81 _ hA83; subst hA81 hA83; have hap8 := own_apart hown8 (hC7.out.lt); have hC8 := CoreAt.below (hC7.out.drew) hb8; have hg8 := grown_then (grown_drew w hg7.out) (grown_of_below hb8 (some p))) | (go_at_call 112; refine (Push_core (rest b) _ _ _ hC8 hr8 hap8 (rest_small b)).mono ?_; rintro e w9 ⟨rfl, hC9, hg9⟩))
        all_goals
          go_wp2
          first | go_end0 | refine bodyPost_ret (results_none rfl _ _ _) rfl ?_
          exact ⟨rfl, CoreAt.congr hC9 rfl, grown_then hg8 hg9⟩
      · have hC7 := Lib.hid (hC6.out.alloc (.cells #[.int .u8 128] 5))
        have hg7 := Lib.hid (grown_alloc w hg6.out (.cells #[.int .u8 128] 5))
        go_wp2_with fail
        refine (Order_254 _).mono ?_
        rintro e w7 ho
        obtain ⟨oA7, oc7, rfl, hown7, hb7⟩ := ho.open_
        clear ho
        have hC8 := CoreAt.below hC7.out hb7
        have hg8 := grown_then hg7.out (grown_of_below hb7 (some p))
        clear F5
        obtain ⟨ring8, qa8, lA8, lc8, hI8⟩ := id hC8; have F8 := core_facts hI8
        clear hI8
        have hlt8 := hC8.lt
        have hC9 := Lib.hid (CoreAt.set_list hC8 oA7 oc7 _ (ListOk.own hown7) (own_cap hown7))
        have hg9 := Lib.hid (grown_set w hg8 70 (.slice oA7 (order 254 4).length oc7))
        clear hC8 hg8 hown7 hb7
        go_wp2
        go_region_held3 (fun _ => True) (first | trivial | (go_keep; done)) (first | (go_at_call 175; refine (rest_t b _).mono ?_; rintro e w8 ho; obtain ⟨A8, c8, rfl, hown8, hb8⟩ := ho.open_; clear ho; obtain ⟨A8', c8', hAc8, hr8, _, _⟩ := own_reads hown8; injection hAc8 with hA81 _ hA83; subst hA81 hA83; have hap8 := own_apart hown8 (hC9.out.lt); have hC8 := CoreAt.below (hC9.out.drew) hb8; have hg8 := grown_then (grown_drew w hg9.out) (grown_of_below hb8 (some p))) | (go_at_call 112; refine (Push_core (rest b) _ _ _ hC8 hr8 hap8 (rest_small b)).mono ?_; rintro e w9 ⟨rfl, hC9, hg9⟩))
        all_goals
          go_wp2
          first | go_end0 | refine bodyPost_ret (results_none rfl _ _ _) rfl ?_
          exact ⟨rfl, CoreAt.congr hC9 rfl, grown_then hg8 hg9⟩
  · have hne1 : 1 ≠ lc := fun e => hc1 e.symm
    go_enter Tryz.func148, Tryz.ntmps148
    go_wp2
    have hW0 := CoreAt.set_list (show CoreAt p s w from ⟨_, _, _, _, HI.out⟩) (some ⟨g, off + 2, none⟩) (lc - 1) l HTL.out (by rw [HM.out]; omega)
    rw [HM.out] at hW0
    have hW := hW0.alloc (.cells #[.int .i64 10, .bool xh] 219)
    have hgW := grown_alloc w (grown_set w (World.grownBy.refl w (some p)) 70 (.slice (some ⟨g, off + 2, none⟩) m (lc - 1))) (.cells #[.int .i64 10, .bool xh] 219)
    have hB := Blk.newAt (w.setCell ⟨p, 70, none⟩ (.slice (some ⟨g, off + 2, none⟩) m (lc - 1))) 219 #[.int .i64 10, .bool xh] w.heap.size (by simp)
    generalize (w.setCell ⟨p, 70, none⟩ (.slice (some ⟨g, off + 2, none⟩) m (lc - 1))).alloc (.cells #[.int .i64 10, .bool xh] 219) = w0 at *
    have hltW := hW.lt
    have hpb : p ≠ w.heap.size := by omega
    have HCL := Lib.hid hW
    clear F p0 p1 hgw hW0
    obtain ⟨ring0, qa0, lA0, lc0, hI0⟩ := id hW; have F0 := core_facts hI0
    clear hI0 hW
    go_region_held3 (fun W => W.cell? ⟨p, 71, none⟩ = some (.int .i64 s.stack)) (first | (go_keep; done) | assumption | (simp [*, set_far, World.cell?_alloc_some, World.cell?_setCell_far]; done)) (first | (go_at_call 116; refine (top_t _ (CoreAt.below HCL.out (by repeat (first | exact Below.refl _ _ | apply below_alloc | apply Below.drew | apply below_drewN | (refine below_then ?_ (by assumption)))))).mono ?_; rintro e w1 ⟨rfl, n, rfl⟩) | (go_at_call 147; refine (Set_core _ _ _ (CoreAt.below HCL.out (by repeat (first | exact Below.refl _ _ | apply below_alloc | apply Below.drew | apply below_drewN | (refine below_then ?_ (by assumption)))))).mono ?_; rintro e wS ⟨rfl, hCS, hgS⟩; have kS := hCS.c_stack))
    have hg2 := grown_then (show w.grownBy _ (some p) from by (repeat (with_reducible first | exact World.grownBy.refl _ _ | assumption | apply grown_drew | apply grown_drewN | apply grown_alloc | apply grown_set))) hgS
    have hB2 : Blk wS w.heap.size 219 #[.int .i64 10, .bool xh] := (hB.below (B := w0.heap.size) (by repeat (first | exact Below.refl _ _ | apply below_alloc | apply Below.drew | apply below_drewN | (refine below_then ?_ (by assumption)))) hB.lt).grown hgS (fun e => by injection e with e; exact hpb e.symm)
    replace hCS : CoreAt p { s with list := l, r := R1 } wS := by rw [← HR1.out]; exact hCS
    clear F0 kS hB
    obtain ⟨ring2, qa2, lA2, lc2, hI2⟩ := id hCS; have F2 := core_facts hI2
    clear hI2
    have b0 := hB2.cell 0
    have b1 := hB2.cell 1
    simp only [List.getElem?_toArray, List.getElem?_cons_zero, List.getElem?_cons_succ] at b0 b1
    have hlt2 := hCS.lt
    have hltb := hB2.lt
    have HCS := Lib.hid hCS
    clear hCS hB2 hgS hgW
    go_wp2
    go_region_with ((go_at_call 174; refine (HWI.out _).mono ?_; rintro e wE ⟨rfl, hbE⟩; have hC3 := CoreAt.below (HCS.out.drew) hbE; obtain ⟨ring3, qa3, lA3, lc3, hI3⟩ := id hC3; have F3 := core_facts hI3))
    all_goals
      have hC4 := CoreAt.set_regs hC3 q
      have hg4 := grown_regs w (grown_then (grown_drew w hg2) (grown_of_below hbE (some p))) q
      have hlt3 := hC3.lt
      have z0 := (hbE.cell (p := ⟨w.heap.size, 0, none⟩) hltb).trans b0
      have HC4 := Lib.hid hC4
      have HG4 := Lib.hid hg4
      clear hC4 hg4
      have z4 : ((((((((((wE.setCell ⟨p, 0, none⟩ (.int .u8 (q.a.toNat : Int))).setCell ⟨p, 1, none⟩ (.int .u8 (q.b.toNat : Int))).setCell ⟨p, 2, none⟩ (.int .u8 (q.dp.toNat : Int))).setCell ⟨p, 3, none⟩ (.int .u8 (q.cc.toNat : Int))).setCell ⟨p, 4, none⟩ (.int .u16 (q.x.toNat : Int))).setCell ⟨p, 5, none⟩ (.int .u16 (q.y.toNat : Int))).setCell ⟨p, 6, none⟩ (.int .u16 (q.u.toNat : Int))).setCell ⟨p, 7, none⟩ (.int .u16 (q.s.toNat : Int))).setCell ⟨p, 8, none⟩ (.int .u16 (q.pc.toNat : Int)))).cell? ⟨w.heap.size, 0, none⟩ = some (.int .i64 10) := by simp [World.cell?_setCell_far, hpb]; exact z0
      generalize (((((((((wE.setCell ⟨p, 0, none⟩ (.int .u8 (q.a.toNat : Int))).setCell ⟨p, 1, none⟩ (.int .u8 (q.b.toNat : Int))).setCell ⟨p, 2, none⟩ (.int .u8 (q.dp.toNat : Int))).setCell ⟨p, 3, none⟩ (.int .u8 (q.cc.toNat : Int))).setCell ⟨p, 4, none⟩ (.int .u16 (q.x.toNat : Int))).setCell ⟨p, 5, none⟩ (.int .u16 (q.y.toNat : Int))).setCell ⟨p, 6, none⟩ (.int .u16 (q.u.toNat : Int))).setCell ⟨p, 7, none⟩ (.int .u16 (q.s.toNat : Int))).setCell ⟨p, 8, none⟩ (.int .u16 (q.pc.toNat : Int))) = W4 at *
      clear F3 hC3 hI3
      obtain ⟨ring4, qa4, lA4, lc4, hI4⟩ := id HC4.out; have F4 := core_facts hI4
      clear hI4
      have hlt4 := HC4.out.lt
      go_wp2_with fail
      refine (Order_128 _).mono ?_
      rintro e w5 ho
      obtain ⟨oA5, oc5, rfl, hown5, hb5⟩ := ho.open_
      clear ho
      have hC5 := CoreAt.below HC4.out hb5
      have hg5 := grown_then HG4.out (grown_of_below hb5 (some p))
      clear F4
      obtain ⟨ring5, qa5, lA5, lc5, hI5⟩ := id hC5; have F5 := core_facts hI5
      clear hI5
      have hC6 := Lib.hid (CoreAt.set_list hC5 oA5 oc5 _ (ListOk.own hown5) (own_cap hown5))
      have hg6 := Lib.hid (grown_set w hg5 70 (.slice oA5 (order 128 4).length oc5))
      have hlt5 := hC5.lt
      clear hC5 hg5 hown5 hb5
      go_wp2_with fail
      refine (HH.out _ _ _ (by first | rfl | simp)).mono ?_
      rintro e w6 ⟨rfl, rfl⟩
      cases t
      · have hC7 := Lib.hid (hC6.out.alloc (.cells #[.int .u8 128] 5))
        have hg7 := Lib.hid (grown_alloc w hg6.out (.cells #[.int .u8 128] 5))
        go_wp2
        go_region_held3 (fun _ => True) (first | trivial | (go_keep; done)) (first | (go_at_call 175; refine (rest_t b _).mono ?_; rintro e w8 ho; obtain ⟨A8, c8, rfl, hown8, hb8⟩ := ho.open_; clear ho; obtain ⟨A8', c8', hAc8, hr8, _, _⟩ := own_reads hown8; injection hAc8 with hA81 _ hA83; subst hA81 hA83; have hap8 := own_apart hown8 (hC7.out.lt); have hC8 := CoreAt.below (hC7.out.drew) hb8; have hg8 := grown_then (grown_drew w hg7.out) (grown_of_below hb8 (some p))) | (go_at_call 112; refine (Push_core (rest b) _ _ _ hC8 hr8 hap8 (rest_small b)).mono ?_; rintro e w9 ⟨rfl, hC9, hg9⟩))
        all_goals
          go_wp2
          first | go_end0 | refine bodyPost_ret (results_none rfl _ _ _) rfl ?_
          exact ⟨rfl, CoreAt.congr hC9 rfl, grown_then hg8 hg9⟩
      · have hC7 := Lib.hid (hC6.out.alloc (.cells #[.int .u8 128] 5))
        have hg7 := Lib.hid (grown_alloc w hg6.out (.cells #[.int .u8 128] 5))
        go_wp2_with fail
        refine (Order_254 _).mono ?_
        rintro e w7 ho
        obtain ⟨oA7, oc7, rfl, hown7, hb7⟩ := ho.open_
        clear ho
        have hC8 := CoreAt.below hC7.out hb7
        have hg8 := grown_then hg7.out (grown_of_below hb7 (some p))
        clear F5
        obtain ⟨ring8, qa8, lA8, lc8, hI8⟩ := id hC8; have F8 := core_facts hI8
        clear hI8
        have hlt8 := hC8.lt
        have hC9 := Lib.hid (CoreAt.set_list hC8 oA7 oc7 _ (ListOk.own hown7) (own_cap hown7))
        have hg9 := Lib.hid (grown_set w hg8 70 (.slice oA7 (order 254 4).length oc7))
        clear hC8 hg8 hown7 hb7
        go_wp2
        go_region_held3 (fun _ => True) (first | trivial | (go_keep; done)) (first | (go_at_call 175; refine (rest_t b _).mono ?_; rintro e w8 ho; obtain ⟨A8, c8, rfl, hown8, hb8⟩ := ho.open_; clear ho; obtain ⟨A8', c8', hAc8, hr8, _, _⟩ := own_reads hown8; injection hAc8 with hA81 _ hA83; subst hA81 hA83; have hap8 := own_apart hown8 (hC9.out.lt); have hC8 := CoreAt.below (hC9.out.drew) hb8; have hg8 := grown_then (grown_drew w hg9.out) (grown_of_below hb8 (some p))) | (go_at_call 112; refine (Push_core (rest b) _ _ _ hC8 hr8 hap8 (rest_small b)).mono ?_; rintro e w9 ⟨rfl, hC9, hg9⟩))
        all_goals
          go_wp2
          first | go_end0 | refine bodyPost_ret (results_none rfl _ _ _) rfl ?_
          exact ⟨rfl, CoreAt.congr hC9 rfl, grown_then hg8 hg9⟩
end Go.Proofs.YtkdaphkpllgmbaaGreat

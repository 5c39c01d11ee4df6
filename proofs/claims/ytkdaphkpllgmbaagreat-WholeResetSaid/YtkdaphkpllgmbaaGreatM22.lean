/-
  Contract of core.opcode.
-/
import Derived.Test.YtkdaphkpllgmbaaGreatM12
import Derived.Test.YtkdaphkpllgmbaaGreatM15
import Derived.Test.YtkdaphkpllgmbaaGreatM21
import Derived.Deep.CutBlock
namespace Go.Proofs.YtkdaphkpllgmbaaGreat
open Go.RowKit Sp
set_option linter.unusedVariables false
set_option linter.unusedSimpArgs false
attribute [local go_sem] Sp.Ent.v Sp.Ent.cells Sp.Enter.v Sp.Enter.cells
theorem Blk.reads_ {w : World} {g : Nat} {t : TypeId} {cs : Array Value} (h : Blk w g t cs) (size n : Nat) (hn : cs.size = n * size) : Reads w w.heap.size size (some ⟨g, 0, none⟩) n cs.toList := by
  refine ⟨by simpa using hn, fun _ => ⟨_, rfl, h.lt, fun j u hu => ?_⟩⟩
  rw [addr_add0]
  exact (h.cell j).trans (by simpa using hu)
theorem Blk.listOk {w : World} {g : Nat} {l : List Part} (h : Blk w g 219 (partsV l).toArray) : ListOk w (some ⟨g, 0, none⟩) l := fun _ => ⟨g, 0, _, rfl, h, fun j u hu => by simpa using hu⟩
set_option maxRecDepth 100000 in
set_option maxHeartbeats 4000000 in
theorem opcode_pre {p : Nat} {s : Core} (b : UInt8) (w : World) (hC : CoreAt p s w) (hp : prefix_ b ≠ 0) (hpg : s.page = 1) :
    Calls Tryz.prog 144 #[.pointer (some ⟨p, 0, none⟩), .int .u8 (b.toNat : Int)] w fun e w' => e = .returned (.tuple #[]) ∧ CoreAt p (({ ({ s with r := { s.r with pc := plusW s.r.pc 1 } } : Core) with page := prefix_ b } : Core).push [⟨1, false⟩]) w' ∧ w.grownBy w' (some p) := by
  have hC0 := Lib.hid (hC.set_pc (plusW s.r.pc 1))
  have hlt := hC.lt
  have e1 := plus1_e
  have HP := Lib.hid (fun W => prefix_t b W)
  generalize prefix_ b = P at *
  have bP : (P != 0) = true := bne_iff_ne.mpr hp
  obtain ⟨ring, qa, lA, lc, hI⟩ := id hC; have F := core_facts hI
  rw [hpg] at F
  clear hI hC hp hpg
  have hC1 := hC0.out.set_page P
  have hg1 := grown_set w (grown_set w (World.grownBy.refl w (some p)) 8 (.int .u16 ((plusW s.r.pc 1).toNat : Int))) 60 (.int .i64 P)
  have hC2 := Lib.hid (hC1.alloc (.cells #[.int .i64 1, .bool false] 202))
  have hg2 := Lib.hid (grown_alloc w hg1 (.cells #[.int .i64 1, .bool false] 202))
  have hB := Blk.newAt ((w.setCell ⟨p, 8, none⟩ (.int .u16 ((plusW s.r.pc 1).toNat : Int))).setCell ⟨p, 60, none⟩ (.int .i64 P)) 202 #[.int .i64 1, .bool false] w.heap.size (by simp)
  have hRd := Lib.hid (hB.reads_ 2 1 rfl)
  have hap : Hid (Apart p 1 (some ⟨w.heap.size, 0, none⟩)) := Lib.hid (fun _ ad he => by injection he with he; subst he; show w.heap.size ≠ p; omega)
  clear hC1 hg1 hB
  go_enter Tryz.func144, Tryz.ntmps144
  go_wp2_with ((go_at_call 162; refine (HP.out _).mono ?_; rintro e wP ⟨rfl, rfl⟩))
  refine (Push_core [⟨1, false⟩] _ _ _ hC2.out hRd.out hap.out (by decide)).mono ?_
  rintro e w9 ⟨rfl, hC9, hg9⟩
  go_wp2
  first | go_end0 | refine bodyPost_ret (results_none rfl _ _ _) rfl ?_
  exact ⟨rfl, CoreAt.congr hC9 rfl, grown_then hg2.out hg9⟩
theorem Order_128_ (w : World) : Calls Tryz.prog 154 #[.int .u8 128, .int .i64 4] w (OwnParts (order 128 4) w) := Order_t 128 4 w
theorem Order_1_ (w : World) : Calls Tryz.prog 154 #[.int .u8 1, .int .i64 4] w (OwnParts (order 1 4) w) := Order_t 1 4 w
set_option maxRecDepth 100000 in
set_option maxHeartbeats 20000000 in
theorem opcode_else {p : Nat} {s : Core} (b : UInt8) (w : World) (hC : CoreAt p s w) (hp : ¬ (prefix_ b ≠ 0 ∧ s.page = 1)) :
    Calls Tryz.prog 144 #[.pointer (some ⟨p, 0, none⟩), .int .u8 (b.toNat : Int)] w fun e w' => e = .returned (.tuple #[]) ∧ CoreAt p (s.opcode b) w' ∧ w.grownBy w' (some p) := by
  obtain ⟨E, hE⟩ : ∃ E, pageOf s.page b = E := ⟨_, rfl⟩
  have HPG := Lib.hid (fun W => pageOf_t s.page b W)
  rw [hE] at HPG
  obtain ⟨s1, hs1⟩ : ∃ s1, ({ ({ s with r := { s.r with pc := plusW s.r.pc 1 } } : Core) with e := E } : Core).push (Sp.ahead E.mode) = s1 := ⟨_, rfl⟩
  obtain ⟨s2, hs2⟩ : ∃ s2, (if E.mode ≠ 4 ∧ E.mode ≠ 9 then s1.push (tail s1.e 0 s1.r.cc) else s1) = s2 := ⟨_, rfl⟩
  have he1 : s1.e = E := by rw [← hs1]; rfl
  have he2 : s2.e = E := by rw [← hs2]; split <;> exact he1
  have hmir : s.opcode b = (if s2.e.op = 51 then s2.into (frameSoft s2.e.reg s2.r.cc).1 true else if s2.e.op = 48 then { s2 with list := order 0x80 4 } else if s2.e.op = 49 then { s2 with list := order 0x01 4 } else if s2.e.op = 33 ∨ s2.e.op = 37 ∨ s2.e.op = 38 then { s2 with list := [⟨5, false⟩, ⟨5, true⟩] } else s2) := by
    rw [← hs2, ← he1] 
    unfold Core.opcode
    dsimp only
    rw [if_neg hp, hE, ← hs1]
    trace_state
  have HM := Lib.hid hmir
  have HS1 := Lib.hid hs1
  have HS2 := Lib.hid hs2
  have HE1 := Lib.hid he1
  have hC0 := Lib.hid (hC.set_pc (plusW s.r.pc 1))
  have hg0 := Lib.hid (grown_set w (World.grownBy.refl w (some p)) 8 (.int .u16 ((plusW s.r.pc 1).toNat : Int)))
  have hlt := hC.lt
  have e1 := plus1_e
  have HP := Lib.hid (fun W => prefix_t b W)
  have HNP := Lib.hid hp
  obtain ⟨ring, qa, lA, lc, hI⟩ := id hC; have F := core_facts hI
  clear hI hC hp hmir hs1 hs2 he1 he2 hE
  go_enter Tryz.func144, Tryz.ntmps144
  go_upto_region 2 with ((go_at_call 162; refine (HP.out _).mono ?_; rintro e wP ⟨rfl, rfl⟩))
  clear F
  obtain ⟨ring0, qa0, lA0, lc0, hI0⟩ := id hC0.out; have F0 := core_facts hI0
  have hlt0 := hC0.out.lt
  clear hI0
  generalize w.setCell ⟨p, 8, none⟩ (.int .u16 ((plusW s.r.pc 1).toNat : Int)) = w1 at *
  go_cut [28] from 4 (fun s28 wx => s28 = .bool false ∧ w1 = wx)
  case first =>
    have hnp := HNP.out
    generalize prefix_ b = P at *
    by_cases h0 : P = 0
    · have b0 : (P != 0) = false := by rw [h0]; rfl
      clear hnp h0
      go_wp2
      go_meet
      case rel => exact ⟨rfl, rfl⟩
    · have b0 : (P != 0) = true := bne_iff_ne.mpr h0
      have b1 : (s.page == 1) = false := beq_eq_false_iff_ne.mpr (fun h => hnp ⟨h0, h⟩)
      clear hnp h0
      go_wp2
      go_meet
      case rel => exact ⟨rfl, rfl⟩
  case rest =>
    obtain ⟨rfl, rfl⟩ := hcut
    go_wp2_with fail
    refine (HPG.out _).mono ?_
    rintro e wE ⟨rfl, hbE⟩
    have hCE := CoreAt.below hC0.out hbE
    have hgE := grown_then hg0.out (grown_of_below hbE (some p))
    clear F0 hbE
    obtain ⟨ring3, qa3, lA3, lc3, hI3⟩ := id hCE; have F3 := core_facts hI3
    clear hI3
    have hlt3 := hCE.lt
    have hC1 := Lib.hid (((hCE.set_op E.op).set_mode E.mode).set_reg E.reg)
    have hg1 := Lib.hid (grown_set w (grown_set w (grown_set w hgE 61 (.int .i64 E.op)) 62 (.int .i64 E.mode)) 63 (.int .i64 E.reg))
    clear hCE hgE
    go_upto_region 6 with fail
    generalize ((wE.setCell ⟨p, 61, none⟩ (.int .i64 E.op)).setCell ⟨p, 62, none⟩ (.int .i64 E.mode)).setCell ⟨p, 63, none⟩ (.int .i64 E.reg) = w4 at *
    clear F3
    obtain ⟨ring4, qa4, lA4, lc4, hI4⟩ := id hC1.out; have F4 := core_facts hI4
    clear hI4
    have hlt4 := hC1.out.lt
    go_region_held3 (fun W => W.cell? ⟨p, 62, none⟩ = some (.int .i64 E.mode)) (first | with_reducible exact k9_mode | with_reducible exact k8_mode | (go_keep; done) | assumption) (first | (go_at_call 164; refine (ahead_t _ _).mono ?_; rintro e w8 ho; obtain ⟨A8, c8, rfl, hown8, hb8⟩ := ho.open_; clear ho; obtain ⟨A8', c8', hAc8, hr8, _, _⟩ := own_reads hown8; injection hAc8 with hA81 _ hA83; subst hA81 hA83; have hap8 := own_apart hown8 ((hC1.out.drew).lt); have hC8 := CoreAt.below (hC1.out.drew) hb8; have k8_mode : w8.cell? ⟨p, 62, none⟩ = some (.int .i64 E.mode) := hC8.c_mode) | (go_at_call 112; refine (Push_core (Sp.ahead E.mode) _ _ _ hC8 hr8 hap8 (ahead_short _)).mono ?_; rintro e w9 ⟨rfl, hC9, hg9⟩; have k9_mode : w9.cell? ⟨p, 62, none⟩ = some (.int .i64 E.mode) := hC9.c_mode))
    have hg5 := Lib.hid (grown_then (grown_then (grown_drew w hg1.out) (grown_of_below hb8 (some p))) hg9)
    have hC5 : CoreAt p s1 w9 := by rw [← HS1.out]; exact hC9
    have hC5h := Lib.hid hC5
    clear F4 k8_mode k9_mode hC8 hC9 hg9 hr8 hown8 hap8 hb8
    obtain ⟨ring5, qa5, lA5, lc5, hI5⟩ := id hC5; have F5 := core_facts hI5
    clear hI5
    have hlt5 := hC5.lt
    rw [HE1.out] at F5
    clear hC5
    go_upto_region 7 with fail
    go_cut [71] from 4 (fun s71 wx => s71 = .bool (decide (E.mode ≠ 4 ∧ E.mode ≠ 9)) ∧ w9 = wx)
    case first =>
      by_cases m4 : E.mode = 4
      · have b4 : (E.mode != 4) = false := by rw [m4]; rfl
        have hd : decide (E.mode ≠ 4 ∧ E.mode ≠ 9) = false := decide_eq_false (fun h => h.1 m4)
        clear m4
        go_wp2
        go_meet
        case rel => exact ⟨by rw [hd], rfl⟩
      · have b4 : (E.mode != 4) = true := bne_iff_ne.mpr m4
        by_cases m9 : E.mode = 9
        · have b9 : (E.mode != 9) = false := by rw [m9]; rfl
          have hd : decide (E.mode ≠ 4 ∧ E.mode ≠ 9) = false := decide_eq_false (fun h => h.2 m9)
          clear m4 m9
          go_wp2
          go_meet
          case rel => exact ⟨by rw [hd], rfl⟩
        · have b9 : (E.mode != 9) = true := bne_iff_ne.mpr m9
          have hd : decide (E.mode ≠ 4 ∧ E.mode ≠ 9) = true := decide_eq_true ⟨m4, m9⟩
          clear m4 m9
          go_wp2
          go_meet
          case rel => exact ⟨by rw [hd], rfl⟩
    case rest =>
      obtain ⟨rfl, rfl⟩ := hcut
      go_upto_if 71 with fail
      go_cut [] from 4 (fun wx => CoreAt p s2 wx ∧ w.grownBy wx (some p))
      case first =>
        by_cases hc : E.mode ≠ 4 ∧ E.mode ≠ 9
        · rw [decide_eq_true hc]
          have HC := Lib.hid hc
          clear hc
          go_wp2_with fail
          go_region_held3 (fun W => W.cell? ⟨p, 61, none⟩ = some (.int .i64 E.op) ∧ W.cell? ⟨p, 62, none⟩ = some (.int .i64 E.mode) ∧ W.cell? ⟨p, 63, none⟩ = some (.int .i64 E.reg) ∧ W.cell? ⟨p, 3, none⟩ = some (.int .u8 (s1.r.cc.toNat : Int))) (first | with_reducible exact ⟨k9_op, k9_mode, k9_reg, k9_cc⟩ | with_reducible exact ⟨k8_op, k8_mode, k8_reg, k8_cc⟩ | (go_keep; done) | assumption) (first | (go_at_call 165; refine (tail_t _ _ _ 0 _ _).mono ?_; rintro e w8 ho; obtain ⟨A8, c8, rfl, hown8, hb8⟩ := ho.open_; clear ho; obtain ⟨A8', c8', hAc8, hr8, _, _⟩ := own_reads hown8; injection hAc8 with hA81 _ hA83; subst hA81 hA83; have hap8 := own_apart hown8 ((hC5h.out.drew).lt); have hC8 := CoreAt.below (hC5h.out.drew) hb8; have k8_op : w8.cell? ⟨p, 61, none⟩ = some (.int .i64 E.op) := HE1.out ▸ hC8.c_op; have k8_mode : w8.cell? ⟨p, 62, none⟩ = some (.int .i64 E.mode) := HE1.out ▸ hC8.c_mode; have k8_reg : w8.cell? ⟨p, 63, none⟩ = some (.int .i64 E.reg) := HE1.out ▸ hC8.c_reg; have k8_cc : w8.cell? ⟨p, 3, none⟩ = some (.int .u8 (s1.r.cc.toNat : Int)) := hC8.c_cc) | (go_at_call 112; refine (Push_core (tail E 0 s1.r.cc) _ _ _ hC8 hr8 hap8 (tail_short _ _ _)).mono ?_; rintro e v9 ⟨rfl, hC9, hg8⟩; have k9_op : v9.cell? ⟨p, 61, none⟩ = some (.int .i64 E.op) := HE1.out ▸ hC9.c_op; have k9_mode : v9.cell? ⟨p, 62, none⟩ = some (.int .i64 E.mode) := HE1.out ▸ hC9.c_mode; have k9_reg : v9.cell? ⟨p, 63, none⟩ = some (.int .i64 E.reg) := HE1.out ▸ hC9.c_reg; have k9_cc : v9.cell? ⟨p, 3, none⟩ = some (.int .u8 (s1.r.cc.toNat : Int)) := hC9.c_cc))
          go_wp2_with fail
          go_meet
          case rel =>
            rw [← HS2.out, if_pos HC.out]
            exact ⟨CoreAt.congr hC9 (by rw [HE1.out]), grown_then (grown_then (grown_drew w hg5.out) (grown_of_below hb8 (some p))) hg8⟩
        · rw [decide_eq_false hc]
          go_wp2
          go_meet
          case rel =>
            rw [← HS2.out, if_neg hc]
            exact ⟨hC5h.out, hg5.out⟩
      case rest =>
        obtain ⟨hC6, hg6⟩ := hcut
        have hC6h := Lib.hid hC6
        have hg6h := Lib.hid hg6
        clear F5 hg6 hlt5
        obtain ⟨ring6, qa6, lA6, lc6, hI6⟩ := id hC6; have F6 := core_facts hI6
        have hlt6 := hC6.lt
        clear hI6 hC6
        by_cases o51 : s2.e.op = 51
        · have hr : s.opcode b = s2.into (frameSoft s2.e.reg s2.r.cc).1 true := by rw [HM.out, if_pos o51]
          obtain ⟨⟨en, ok⟩, hX⟩ : ∃ X, frameSoft s2.e.reg s2.r.cc = X := ⟨_, rfl⟩
          have HF := Lib.hid (fun W => frameSoft_t s2.e.reg s2.r.cc W)
          rw [hX] at HF hr
          have HR := Lib.hid hr
          rw [o51] at F6
          clear hX hr o51
          have hBz := Lib.hid (Blk.newAt wc 207 #[.int .u8 0, .int .u8 0, .int .u16 0, .bool false] wc.heap.size (by simp))
          have hzl : wc.heap.size < (wc.alloc (.cells #[.int .u8 0, .int .u8 0, .int .u16 0, .bool false] 207)).drew.heap.size := hBz.out.lt
          have hne1 : p ≠ wc.heap.size := by omega
          have hne2 : wc.heap.size ≠ p := by omega
          go_upto_region 11 with fail
          go_cut [5] from 6 (fun s5 wx => ∃ g, s5 = .pointer (some ⟨g, 0, none⟩) ∧ Blk wx g 207 en.cells ∧ CoreAt p s2 wx ∧ w.grownBy wx (some p) ∧ wc.heap.size ≤ g)
          case first =>
            go_region_held3 (fun W => W.cell? ⟨p, 63, none⟩ = some (.int .i64 s2.e.reg) ∧ W.cell? ⟨p, 3, none⟩ = some (.int .u8 (s2.r.cc.toNat : Int))) (first | with_reducible exact ⟨y3, y4⟩ | (simp only [World.cell?_setCell_far, hne1, hne2, ne_eq, not_false_eq_true, y3, y4, and_self]; done) | (go_keep; done) | assumption) (first | (go_at_call 166; refine (HF.out _).mono ?_; rintro e wF ⟨rfl, hbF⟩; have hCF : CoreAt p s2 wF := CoreAt.below (by (repeat (with_reducible first | exact hC6h.out | apply CoreAt.drew | apply CoreAt.alloc))) hbF; have y3 := hCF.c_reg; have y4 := hCF.c_cc; first | (have hBy : Blk wF wc.heap.size 207 #[.int .u8 0, .int .u8 0, .int .u16 0, .bool false] := (by with_reducible exact Blk.below (hBz.out.drew) hbF hzl); have y5 := hBy.cell 0; have y6 := hBy.cell 1; have y7 := hBy.cell 2; have y8 := hBy.cell 3; simp only [List.getElem?_toArray, List.getElem?_cons_zero, List.getElem?_cons_succ] at y5 y6 y7 y8; have f5 := hBy.frozen 0; have f6 := hBy.frozen 1; have f7 := hBy.frozen 2; have f8 := hBy.frozen 3) | skip))
            all_goals
              go_wp2_with fail
              have hgF : w.grownBy wF (some p) := grown_then (by (repeat (with_reducible first | exact hg6h.out | apply grown_drew | apply grown_alloc))) (grown_of_below hbF (some p))
              have hsz : wc.heap.size ≤ wF.heap.size := by have := hbF.size; simp at this; omega
              have hsw := hg6h.out.size
              go_meet
              case rel =>
                first
                | (have h0 : LBlk wF wc.heap.size 207 [.int .u8 0, .int .u8 0, .int .u16 0, .bool false] := hBy
                   have h1 := h0.set_ 0 (.int .u8 (en.pushed.toNat : Int))
                   have h2 := h1.set_ 1 (.int .u8 (en.then_.toNat : Int))
                   have h3 := h2.set_ 2 (.int .u16 (en.vector.toNat : Int))
                   have h4 := h3.set_ 3 (.bool en.whole)
                   exact ⟨wc.heap.size, rfl, h4, (((hCF.far h0 (by decide) (by decide) 0 _).far h1 (by decide) (by decide) 1 _).far h2 (by decide) (by decide) 2 _).far h3 (by decide) (by decide) 3 _, grown_new w (grown_new w (grown_new w (grown_new w hgF wc.heap.size hsw 0 _) wc.heap.size hsw 1 _) wc.heap.size hsw 2 _) wc.heap.size hsw 3 _, Nat.le_refl _⟩)
                | exact ⟨wF.heap.size, rfl, Blk.newAt _ _ _ _ (by simp), hCF.alloc _, grown_alloc w hgF _, hsz⟩
          case rest =>
            obtain ⟨g, rfl, hBg, hCg, hgg, _⟩ := hcut
            have hCgh := Lib.hid hCg
            have hggh := Lib.hid hgg
            clear F6 hgg
            obtain ⟨ring7, qa7, lA7, lc7, hI7⟩ := id hCg; have F7 := core_facts hI7
            clear hI7 hCg
            have b0 := hBg.cell 0
            have b1 := hBg.cell 1
            have b2 := hBg.cell 2
            have b3 := hBg.cell 3
            simp only [Sp.Enter.cells, List.getElem?_toArray, List.getElem?_cons_zero, List.getElem?_cons_succ] at b0 b1 b2 b3
            go_wp2_with fail
            refine (into_t en true _ hCgh.out).mono ?_
            rintro e w8 ⟨rfl, hC8, hg8⟩
            go_wp2_with fail
            first | go_end0 | refine bodyPost_ret (results_none rfl _ _ _) rfl ?_
            rw [HR.out]
            exact ⟨rfl, hC8, grown_then hggh.out hg8⟩
        have b51 : (s2.e.op == 51) = false := beq_eq_false_iff_ne.mpr o51
        by_cases o48 : s2.e.op = 48
        · have HR := Lib.hid (show s.opcode b = { s2 with list := order 128 4 } from by rw [HM.out, if_neg o51, if_pos o48])
          rw [o48] at F6
          clear o51 o48 b51
          go_wp2_with fail
          refine (Order_128_ _).mono ?_
          rintro e w7 ho
          obtain ⟨oA7, oc7, rfl, hown7, hb7⟩ := ho.open_
          clear ho
          have hC7 := CoreAt.below hC6h.out hb7
          have hg7 := grown_then hg6h.out (grown_of_below hb7 (some p))
          clear F6
          obtain ⟨ring7, qa7, lA7, lc7, hI7⟩ := id hC7; have F7 := core_facts hI7
          clear hI7
          have hlt7 := hC7.lt
          have hC9 := Lib.hid (CoreAt.set_list hC7 oA7 oc7 _ (ListOk.own hown7) (own_cap hown7))
          have hg9 := Lib.hid (grown_set w hg7 70 (.slice oA7 (order 128 4).length oc7))
          clear hC7 hg7 hown7 hb7
          go_wp2
          first | go_end0 | refine bodyPost_ret (results_none rfl _ _ _) rfl ?_
          rw [HR.out]
          exact ⟨rfl, hC9.out, hg9.out⟩
        have b48 : (s2.e.op == 48) = false := beq_eq_false_iff_ne.mpr o48
        by_cases o49 : s2.e.op = 49
        · have HR := Lib.hid (show s.opcode b = { s2 with list := order 1 4 } from by rw [HM.out, if_neg o51, if_neg o48, if_pos o49])
          rw [o49] at F6
          clear o51 o48 o49 b51 b48
          go_wp2_with fail
          refine (Order_1_ _).mono ?_
          rintro e w7 ho
          obtain ⟨oA7, oc7, rfl, hown7, hb7⟩ := ho.open_
          clear ho
          have hC7 := CoreAt.below hC6h.out hb7
          have hg7 := grown_then hg6h.out (grown_of_below hb7 (some p))
          clear F6
          obtain ⟨ring7, qa7, lA7, lc7, hI7⟩ := id hC7; have F7 := core_facts hI7
          clear hI7
          have hlt7 := hC7.lt
          have hC9 := Lib.hid (CoreAt.set_list hC7 oA7 oc7 _ (ListOk.own hown7) (own_cap hown7))
          have hg9 := Lib.hid (grown_set w hg7 70 (.slice oA7 (order 1 4).length oc7))
          clear hC7 hg7 hown7 hb7
          go_wp2
          first | go_end0 | refine bodyPost_ret (results_none rfl _ _ _) rfl ?_
          rw [HR.out]
          exact ⟨rfl, hC9.out, hg9.out⟩
        have b49 : (s2.e.op == 49) = false := beq_eq_false_iff_ne.mpr o49
        by_cases o3 : s2.e.op = 33 ∨ s2.e.op = 37 ∨ s2.e.op = 38
        · have HR := Lib.hid (show s.opcode b = { s2 with list := [⟨5, false⟩, ⟨5, true⟩] } from by rw [HM.out, if_neg o51, if_neg o48, if_neg o49, if_pos o3])
          have hB := Blk.newAt wc 219 (partsV [⟨5, false⟩, ⟨5, true⟩]).toArray wc.heap.size (by simp)
          have hCa := hC6h.out.alloc (.cells #[.int .i64 5, .bool false, .int .i64 5, .bool true] 219)
          have hCb0 := CoreAt.set_list hCa (some ⟨wc.heap.size, 0, none⟩) 2 [⟨5, false⟩, ⟨5, true⟩] hB.listOk (Nat.le_refl _)
          have hgb0 := grown_set w (grown_alloc w hg6h.out (.cells #[.int .i64 5, .bool false, .int .i64 5, .bool true] 219)) 70 (.slice (some ⟨wc.heap.size, 0, none⟩) 2 2)
          rw [World.setCell_alloc_past _ _ _ _ hlt6] at hCb0 hgb0
          have hCb := Lib.hid hCb0
          have hgb := Lib.hid hgb0
          clear hCb0 hgb0
          clear hB hCa
          rcases o3 with o | o | o
          all_goals
            rw [o] at F6
            clear o51 o48 o49 b51 b48 b49 o
            go_wp2
            first | go_end0 | refine bodyPost_ret (results_none rfl _ _ _) rfl ?_
            rw [HR.out]
            exact ⟨rfl, hCb.out, hgb.out⟩
        · have HR := Lib.hid (show s.opcode b = s2 from by rw [HM.out, if_neg o51, if_neg o48, if_neg o49, if_neg o3])
          have b33 : (s2.e.op == 33) = false := beq_eq_false_iff_ne.mpr (fun h => o3 (.inl h))
          have b37 : (s2.e.op == 37) = false := beq_eq_false_iff_ne.mpr (fun h => o3 (.inr (.inl h)))
          have b38 : (s2.e.op == 38) = false := beq_eq_false_iff_ne.mpr (fun h => o3 (.inr (.inr h)))
          clear o51 o48 o49 o3
          go_wp2
          first | go_end0 | refine bodyPost_ret (results_none rfl _ _ _) rfl ?_
          rw [HR.out]
          exact ⟨rfl, hC6h.out, hg6h.out⟩
set_option maxRecDepth 100000 in
set_option maxHeartbeats 1000000 in
theorem opcode_t {p : Nat} {s : Core} (b : UInt8) (w : World) (hC : CoreAt p s w) :
    Calls Tryz.prog 144 #[.pointer (some ⟨p, 0, none⟩), .int .u8 (b.toNat : Int)] w fun e w' => e = .returned (.tuple #[]) ∧ CoreAt p (s.opcode b) w' ∧ w.grownBy w' (some p) := by
  by_cases hp : prefix_ b ≠ 0 ∧ s.page = 1
  · rw [show s.opcode b = (({ ({ s with r := { s.r with pc := plusW s.r.pc 1 } } : Core) with page := prefix_ b } : Core).push [⟨1, false⟩]) from by unfold Core.opcode; exact if_pos hp]
    exact opcode_pre b w hC hp.1 hp.2
  · exact opcode_else b w hC hp
end Go.Proofs.YtkdaphkpllgmbaaGreat

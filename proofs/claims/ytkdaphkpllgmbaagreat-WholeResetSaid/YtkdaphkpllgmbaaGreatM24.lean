/-
  Contract of the core's ready.
-/
import Derived.Test.YtkdaphkpllgmbaaGreatM12
import Derived.Test.YtkdaphkpllgmbaaGreatM08
import Derived.Deep.RegionWith
import Derived.Deep.CutBlock
import Derived.StillTailTactics
namespace Go.Proofs.YtkdaphkpllgmbaaGreat
open Go.RowKit Sp
set_option linter.unusedVariables false
set_option linter.unusedSimpArgs false
attribute [local go_sem] Sp.Regs.v Sp.Regs.cells Sp.Post.v Sp.Post.cells
theorem core_frz {p : Nat} {s : Core} {w : World} (h : CoreAt p s w) : w.frozen? ⟨p, 0, none⟩ = false ∧ w.frozen? ⟨p, 1, none⟩ = false ∧ w.frozen? ⟨p, 2, none⟩ = false ∧ w.frozen? ⟨p, 3, none⟩ = false ∧ w.frozen? ⟨p, 4, none⟩ = false ∧ w.frozen? ⟨p, 5, none⟩ = false ∧ w.frozen? ⟨p, 6, none⟩ = false ∧ w.frozen? ⟨p, 7, none⟩ = false ∧ w.frozen? ⟨p, 8, none⟩ = false ∧ w.frozen? ⟨p, 67, none⟩ = false := by
  obtain ⟨ring, a, A, c, h⟩ := h
  exact ⟨h.blk.frozen 0, h.blk.frozen 1, h.blk.frozen 2, h.blk.frozen 3, h.blk.frozen 4, h.blk.frozen 5, h.blk.frozen 6, h.blk.frozen 7, h.blk.frozen 8, h.blk.frozen 67⟩
theorem ready1_e (s : Core) : s.ready1.e = s.e := by
  unfold Core.ready1
  dsimp only
  repeat' split
  all_goals rfl
theorem With_128d (cc : UInt8) (on : Bool) (t : TypeId) (w : World) (g : Nat) (hg : w.heap.size = g) :
    Calls Tryz.prog 137 #[.int .u8 (cc.toNat : Int), .bool on, .slice (some ⟨g, 0, none⟩) 1 1] (w.alloc (.cells #[.int .u8 128] t)).drew fun e w' => e = .returned (.int .u8 ((wb on cc 128).toNat : Int)) ∧ (w.alloc (.cells #[.int .u8 128] t)).drew = w' := With_128 cc on t w.drew g hg
set_option maxRecDepth 100000 in
set_option maxHeartbeats 60000000 in
theorem ready_a {p : Nat} {s : Core}  (w : World) (hC : CoreAt p s w) (h41 : s.e.op ≠ 41) :
    Calls Tryz.prog 169 #[.pointer (some ⟨p, 0, none⟩)] w fun e w' => e = .returned (.tuple #[]) ∧ CoreAt p (s.ready) w' ∧ w.grownBy w' (some p) := by
  have hC0 := Lib.hid hC
  have hlt := hC.lt
  obtain ⟨ring, qa, lA, lc, hI⟩ := id hC; have F := core_facts hI
  have H41 := Lib.hid h41
  clear hI hC h41
  go_enter Tryz.func169, Tryz.ntmps169
  go_upto_block 0 with fail
  go_cut [] from 1 (fun wx => CoreAt p s.ready1 wx ∧ w.grownBy wx (some p))
  case first =>
    by_cases m6 : s.e.mode = 6
    · have hr1 : s.ready1 = { s with ea := plusW s.r.pc (sext (lo s.value)) } := by unfold Core.ready1; simp [m6]
      have ep : IntKind.u16.wrap ((s.r.pc.toNat : Int) + ((sext (lo s.value)).toNat : Int)) = ((plusW s.r.pc (sext (lo s.value))).toNat : Int) := plus_e _ _
      rw [m6] at F ⊢
      clear m6
      go_wp2
      go_region_held3 (fun W => W.cell? ⟨p, 8, none⟩ = some (.int .u16 (s.r.pc.toNat : Int)) ∧ W.cell? ⟨p, 66, none⟩ = some (.int .u16 (s.value.toNat : Int))) (first | (go_keep; done) | assumption | (simp [*, set_far, World.cell?_alloc_some, World.cell?_setCell_far]; done)) (first | (go_at_call 30; refine (Low_t _ _).mono ?_; rintro e w1 ⟨rfl, rfl⟩) | (go_at_call 196; refine (Sign_t _ _).mono ?_; rintro e w1 ⟨rfl, rfl⟩))
      go_wp2
      go_meet
      case rel =>
        rw [hr1]
        refine ⟨CoreAt.of ?_, ?_⟩
        · apply Exists.intro
          refine ⟨?_, ?_⟩
          · (repeat (with_reducible first | exact hC0.out | apply CoreAt.drew | apply CoreAt.drewN | apply CoreAt.alloc | apply CoreAt.set_a | apply CoreAt.set_b | apply CoreAt.set_dp | apply CoreAt.set_cc | apply CoreAt.set_x | apply CoreAt.set_y | apply CoreAt.set_u | apply CoreAt.set_s | apply CoreAt.set_pc | apply CoreAt.set_kind | apply CoreAt.set_page | apply CoreAt.set_op | apply CoreAt.set_mode | apply CoreAt.set_reg | apply CoreAt.set_post | apply CoreAt.set_args | apply CoreAt.set_value | apply CoreAt.set_ea | apply CoreAt.set_word | apply CoreAt.set_ptr | apply CoreAt.set_stack | apply CoreAt.set_pushed | apply CoreAt.set_then_ | apply CoreAt.set_vector | apply CoreAt.set_whole | apply CoreAt.set_loads))
          · rfl
        · (repeat (with_reducible first | exact World.grownBy.refl _ _ | assumption | apply grown_drew | apply grown_drewN | apply grown_alloc | apply grown_set))
    by_cases m7 : s.e.mode = 7
    · have hr1 : s.ready1 = { s with ea := plusW s.r.pc s.value } := by unfold Core.ready1; simp [m7]
      have ep : IntKind.u16.wrap ((s.r.pc.toNat : Int) + (s.value.toNat : Int)) = ((plusW s.r.pc s.value).toNat : Int) := plus_e _ _
      rw [m7] at F ⊢
      clear m6 m7
      go_wp2
      go_region
      go_wp2
      go_meet
      case rel =>
        rw [hr1]
        refine ⟨CoreAt.of ?_, ?_⟩
        · apply Exists.intro
          refine ⟨?_, ?_⟩
          · (repeat (with_reducible first | exact hC0.out | apply CoreAt.drew | apply CoreAt.drewN | apply CoreAt.alloc | apply CoreAt.set_a | apply CoreAt.set_b | apply CoreAt.set_dp | apply CoreAt.set_cc | apply CoreAt.set_x | apply CoreAt.set_y | apply CoreAt.set_u | apply CoreAt.set_s | apply CoreAt.set_pc | apply CoreAt.set_kind | apply CoreAt.set_page | apply CoreAt.set_op | apply CoreAt.set_mode | apply CoreAt.set_reg | apply CoreAt.set_post | apply CoreAt.set_args | apply CoreAt.set_value | apply CoreAt.set_ea | apply CoreAt.set_word | apply CoreAt.set_ptr | apply CoreAt.set_stack | apply CoreAt.set_pushed | apply CoreAt.set_then_ | apply CoreAt.set_vector | apply CoreAt.set_whole | apply CoreAt.set_loads))
          · rfl
        · (repeat (with_reducible first | exact World.grownBy.refl _ _ | assumption | apply grown_drew | apply grown_drewN | apply grown_alloc | apply grown_set))
    by_cases m3 : s.e.mode = 3
    · have hr1 : s.ready1 = { s with ea := Sp.word s.r.dp (lo s.value) } := by unfold Core.ready1; simp [m3]
      rw [m3] at F ⊢
      clear m6 m7 m3
      go_wp2
      go_region_held3 (fun W => W.cell? ⟨p, 2, none⟩ = some (.int .u8 (s.r.dp.toNat : Int)) ∧ W.cell? ⟨p, 66, none⟩ = some (.int .u16 (s.value.toNat : Int))) (first | (go_keep; done) | assumption | (simp [*, set_far, World.cell?_alloc_some, World.cell?_setCell_far]; done)) (first | (go_at_call 30; refine (Low_t _ _).mono ?_; rintro e w1 ⟨rfl, rfl⟩) | (go_at_call 197; refine (Direct_t _ _ _).mono ?_; rintro e w1 ⟨rfl, rfl⟩))
      go_wp2
      go_meet
      case rel =>
        rw [hr1]
        refine ⟨CoreAt.of ?_, ?_⟩
        · apply Exists.intro
          refine ⟨?_, ?_⟩
          · (repeat (with_reducible first | exact hC0.out | apply CoreAt.drew | apply CoreAt.drewN | apply CoreAt.alloc | apply CoreAt.set_a | apply CoreAt.set_b | apply CoreAt.set_dp | apply CoreAt.set_cc | apply CoreAt.set_x | apply CoreAt.set_y | apply CoreAt.set_u | apply CoreAt.set_s | apply CoreAt.set_pc | apply CoreAt.set_kind | apply CoreAt.set_page | apply CoreAt.set_op | apply CoreAt.set_mode | apply CoreAt.set_reg | apply CoreAt.set_post | apply CoreAt.set_args | apply CoreAt.set_value | apply CoreAt.set_ea | apply CoreAt.set_word | apply CoreAt.set_ptr | apply CoreAt.set_stack | apply CoreAt.set_pushed | apply CoreAt.set_then_ | apply CoreAt.set_vector | apply CoreAt.set_whole | apply CoreAt.set_loads))
          · rfl
        · (repeat (with_reducible first | exact World.grownBy.refl _ _ | assumption | apply grown_drew | apply grown_drewN | apply grown_alloc | apply grown_set))
    by_cases m5 : s.e.mode = 5
    · have hr1 : s.ready1 = { s with ea := s.value } := by unfold Core.ready1; simp [m5]
      rw [m5] at F ⊢
      clear m6 m7 m3 m5
      go_wp2
      go_meet
      case rel =>
        rw [hr1]
        refine ⟨CoreAt.of ?_, ?_⟩
        · apply Exists.intro
          refine ⟨?_, ?_⟩
          · (repeat (with_reducible first | exact hC0.out | apply CoreAt.drew | apply CoreAt.drewN | apply CoreAt.alloc | apply CoreAt.set_a | apply CoreAt.set_b | apply CoreAt.set_dp | apply CoreAt.set_cc | apply CoreAt.set_x | apply CoreAt.set_y | apply CoreAt.set_u | apply CoreAt.set_s | apply CoreAt.set_pc | apply CoreAt.set_kind | apply CoreAt.set_page | apply CoreAt.set_op | apply CoreAt.set_mode | apply CoreAt.set_reg | apply CoreAt.set_post | apply CoreAt.set_args | apply CoreAt.set_value | apply CoreAt.set_ea | apply CoreAt.set_word | apply CoreAt.set_ptr | apply CoreAt.set_stack | apply CoreAt.set_pushed | apply CoreAt.set_then_ | apply CoreAt.set_vector | apply CoreAt.set_whole | apply CoreAt.set_loads))
          · rfl
        · (repeat (with_reducible first | exact World.grownBy.refl _ _ | assumption | apply grown_drew | apply grown_drewN | apply grown_alloc | apply grown_set))
    by_cases m4 : s.e.mode = 4
    · have hP := Lib.hid (fun W => postOf_t s.post W)
      have hr1 : s.ready1 = (let v := if (postOf s.post).bytes = 1 then sext (lo s.value) else s.value; let x := indexOf (postOf s.post) s.r v s.r.pc; { s with value := v, ea := x.1, r := x.2 }) := by unfold Core.ready1; simp [m4]
      rw [m4] at F ⊢
      clear m6 m7 m3 m5 m4
      generalize postOf s.post = P at *
      have hBY := Lib.hid (fun W => Bytes_t P W)
      go_wp2_with ((go_at_call 194; refine (hP.out _).mono ?_; rintro e w1 ⟨rfl, hb1⟩))
      have hB := Blk.newAt w1 271 P.cells w1.heap.size (by simp)
      have hC1 := Lib.hid ((CoreAt.below hC0.out hb1).alloc (.cells P.cells 271))
      have hgr1 := grown_alloc w (grown_of_below hb1 (some p)) (.cells P.cells 271)
      have hlt1 := hC1.out.lt
      have hpb : p ≠ w1.heap.size := by have h1 := hC0.out.lt; have h2 := hb1.size; omega
      clear F hb1
      refine (hBY.out _).mono ?_
      rintro e w2 ⟨rfl, hb2⟩
      have hC2 := Lib.hid (CoreAt.below hC1.out hb2)
      have hB2 := hB.below hb2 hB.lt
      have hgr2 := Lib.hid (grown_then hgr1 (grown_of_below hb2 (some p)))
      obtain ⟨ring2, qa2, lA2, lc2, hI2⟩ := id hC2.out; have F2 := core_facts hI2
      have b0 := hB2.cell 0
      have b1 := hB2.cell 1
      have b2 := hB2.cell 2
      have b3 := hB2.cell 3
      simp only [Sp.Post.cells, List.getElem?_toArray, List.getElem?_cons_zero, List.getElem?_cons_succ] at b0 b1 b2 b3
      have hlt2 := hC2.out.lt
      have hltb := hB2.lt
      clear hI2 hB hb2 hgr1 hC1 hBY hP hlt1
      by_cases hby : P.bytes = 1
      · have hv : (if P.bytes = 1 then sext (lo s.value) else s.value) = sext (lo s.value) := if_pos hby
        rw [hv] at hr1
        clear hv
        rw [hby]
        clear hby
        obtain ⟨⟨xe, xr⟩, hX⟩ : ∃ X, indexOf P s.r (sext (lo s.value)) s.r.pc = X := ⟨_, rfl⟩
        have HIX := Lib.hid (fun W => indexOf_t P s.r (sext (lo s.value)) s.r.pc W)
        rw [hX] at HIX
        try dsimp only at hr1
        rw [hX] at hr1
        clear hX
        have hC3 := Lib.hid (hC2.out.set_value (sext (lo s.value)))
        have hgr3 := Lib.hid (grown_set w hgr2.out 66 (.int .u16 ((sext (lo s.value)).toNat : Int)))
        have hB3 := Blk.far hB2 (p := ⟨p, 66, none⟩) (Ne.symm hpb) (.int .u16 ((sext (lo s.value)).toNat : Int))
        have d0 := hB3.cell 0
        have d1 := hB3.cell 1
        have d2 := hB3.cell 2
        have d3 := hB3.cell 3
        simp only [Sp.Post.cells, List.getElem?_toArray, List.getElem?_cons_zero, List.getElem?_cons_succ] at d0 d1 d2 d3
        have hlt3a := hC3.out.lt
        have hltb5 := hB3.lt
        clear hB2 hB3
        go_upto_region 13 with ((first | (go_at_call 30; refine (Low_t _ _).mono ?_; rintro e w1 ⟨rfl, rfl⟩) | (go_at_call 196; refine (Sign_t _ _).mono ?_; rintro e w1 ⟨rfl, rfl⟩)))
        clear b0 b1 b2 b3
        generalize w2.setCell ⟨p, 66, none⟩ (.int .u16 ((sext (lo s.value)).toNat : Int)) = w5 at *
        have hD3 := hC3.out.drew
        obtain ⟨ring3, qa3, lA3, lc3, hI3⟩ := id hD3
        have u0 := hD3.c_a
        have u1 := hD3.c_b
        have u2 := hD3.c_dp
        have u3 := hD3.c_cc
        have u4 := hD3.c_x
        have u5 := hD3.c_y
        have u6 := hD3.c_u
        have u7 := hD3.c_s
        have u8 := hD3.c_pc
        have u66 := hD3.c_value
        clear hI3 hD3
        have c0 : w5.drew.cell? ⟨w1.heap.size, 0, none⟩ = _ := d0
        have c1 : w5.drew.cell? ⟨w1.heap.size, 1, none⟩ = _ := d1
        have c2 : w5.drew.cell? ⟨w1.heap.size, 2, none⟩ = _ := d2
        have c3 : w5.drew.cell? ⟨w1.heap.size, 3, none⟩ = _ := d3
        have hlt3 : p < w5.drew.heap.size := hlt3a
        have hltb3 : w1.heap.size < w5.drew.heap.size := hltb5
        clear F2
        refine wp_region_noPanic ?_
        refine wp_region_held_drew (S := fun W => W.cell? ⟨w1.heap.size, 0, none⟩ = some (.int .i64 P.kind) ∧ W.cell? ⟨w1.heap.size, 1, none⟩ = some (.int .i64 P.reg) ∧ W.cell? ⟨w1.heap.size, 2, none⟩ = some (.int .u16 (P.off.toNat : Int)) ∧ W.cell? ⟨w1.heap.size, 3, none⟩ = some (.bool P.ind) ∧ W.cell? ⟨p, 66, none⟩ = some (.int .u16 ((sext (lo s.value)).toNat : Int))) (by kernel_rfl) ⟨c0, c1, c2, c3, u66⟩ (fun hHeld => ?_)
        (refine wpAnyH_take (i := 0) (v := ?_) rfl (by kernel_rfl) (by kernel_rfl) (by kernel_rfl) (fun _ _ _ h => h) (Or.inl ⟨by rfl, ?_⟩) hHeld ?_; rotate_left; focus (intro wq hSw; (try dsimp only at hSw); go_simp; (try with_reducible rfl); done)); try simp only [Act.put, List.setIfInBounds_toArray, List.set_cons_zero, List.set_cons_succ]
        (refine wpAnyH_take (i := 1) (v := ?_) rfl (by kernel_rfl) (by kernel_rfl) (by kernel_rfl) (fun _ _ _ h => h) (Or.inl ⟨by rfl, ?_⟩) hHeld ?_; rotate_left; focus (intro wq hSw; (try dsimp only at hSw); go_simp; (try with_reducible rfl); done)); try simp only [Act.put, List.setIfInBounds_toArray, List.set_cons_zero, List.set_cons_succ]
        (refine wpAnyH_take (i := 2) (v := ?_) rfl (by kernel_rfl) (by kernel_rfl) (by kernel_rfl) (fun _ _ _ h => h) (Or.inl ⟨by rfl, ?_⟩) hHeld ?_; rotate_left; focus (intro wq hSw; (try dsimp only at hSw); go_simp; (try with_reducible rfl); done)); try simp only [Act.put, List.setIfInBounds_toArray, List.set_cons_zero, List.set_cons_succ]
        (refine wpAnyH_take (i := 3) (v := ?_) rfl (by kernel_rfl) (by kernel_rfl) (by kernel_rfl) (fun _ _ _ h => h) (Or.inl ⟨by rfl, ?_⟩) hHeld ?_; rotate_left; focus (intro wq hSw; (try dsimp only at hSw); go_simp; (try with_reducible rfl); done)); try simp only [Act.put, List.setIfInBounds_toArray, List.set_cons_zero, List.set_cons_succ]
        (refine wpAnyH_take (i := 4) (v := ?_) rfl (by kernel_rfl) (by kernel_rfl) (by kernel_rfl) (fun _ _ _ h => h) (Or.inl ⟨by rfl, ?_⟩) hHeld ?_; rotate_left; focus (intro wq hSw; (try dsimp only at hSw); go_simp; (try with_reducible rfl); done)); try simp only [Act.put, List.setIfInBounds_toArray, List.set_cons_zero, List.set_cons_succ]
        (refine wpAnyH_take (i := 5) (v := ?_) rfl (by kernel_rfl) (by kernel_rfl) (by kernel_rfl) (fun _ _ _ h => h) (Or.inl ⟨by rfl, ?_⟩) hHeld ?_; rotate_left; focus (intro wq hSw; (try dsimp only at hSw); go_simp; (try with_reducible rfl); done)); try simp only [Act.put, List.setIfInBounds_toArray, List.set_cons_zero, List.set_cons_succ]
        (refine wpAnyH_take (i := 6) (v := ?_) rfl (by kernel_rfl) (by kernel_rfl) (by kernel_rfl) (fun _ _ _ h => h) (Or.inl ⟨by rfl, ?_⟩) hHeld ?_; rotate_left; focus (intro wq hSw; (try dsimp only at hSw); go_simp; (try with_reducible rfl); done)); try simp only [Act.put, List.setIfInBounds_toArray, List.set_cons_zero, List.set_cons_succ]
        (refine wpAnyH_take (i := 8) (v := ?_) rfl (by kernel_rfl) (by kernel_rfl) (by kernel_rfl) (fun _ _ _ h => h) (Or.inl ⟨by rfl, ?_⟩) hHeld ?_; rotate_left; focus (intro wq hSw; (try dsimp only at hSw); go_simp; (try with_reducible rfl); done)); try simp only [Act.put, List.setIfInBounds_toArray, List.set_cons_zero, List.set_cons_succ]
        (refine wpAnyH_take (i := 9) (v := ?_) rfl (by kernel_rfl) (by kernel_rfl) (by kernel_rfl) (fun _ _ _ h => h) (Or.inl ⟨by rfl, ?_⟩) hHeld ?_; rotate_left; focus (intro wq hSw; (try dsimp only at hSw); go_simp; (try with_reducible rfl); done)); try simp only [Act.put, List.setIfInBounds_toArray, List.set_cons_zero, List.set_cons_succ]
        (refine wpAnyH_take (i := 10) (v := ?_) rfl (by kernel_rfl) (by kernel_rfl) (by kernel_rfl) (fun _ _ _ h => h) (Or.inl ⟨by rfl, ?_⟩) hHeld ?_; rotate_left; focus (intro wq hSw; (try dsimp only at hSw); go_simp; (try with_reducible rfl); done)); try simp only [Act.put, List.setIfInBounds_toArray, List.set_cons_zero, List.set_cons_succ]
        (refine wpAnyH_take (i := 11) (v := ?_) rfl (by kernel_rfl) (by kernel_rfl) (by kernel_rfl) (fun _ _ _ h => h) (Or.inl ⟨by rfl, ?_⟩) hHeld ?_; rotate_left; focus (intro wq hSw; (try dsimp only at hSw); go_simp; (try with_reducible rfl); done)); try simp only [Act.put, List.setIfInBounds_toArray, List.set_cons_zero, List.set_cons_succ]
        (refine wpAnyH_take (i := 12) (v := ?_) rfl (by kernel_rfl) (by kernel_rfl) (by kernel_rfl) (fun _ _ _ h => h) (Or.inl ⟨by rfl, ?_⟩) hHeld ?_; rotate_left; focus (intro wq hSw; (try dsimp only at hSw); go_simp; (try with_reducible rfl); done)); try simp only [Act.put, List.setIfInBounds_toArray, List.set_cons_zero, List.set_cons_succ]
        (refine wpAnyH_take (i := 13) (v := ?_) rfl (by kernel_rfl) (by kernel_rfl) (by kernel_rfl) (fun _ _ _ h => h) (Or.inl ⟨by rfl, ?_⟩) hHeld ?_; rotate_left; focus (intro wq hSw; (try dsimp only at hSw); go_simp; (try with_reducible rfl); done)); try simp only [Act.put, List.setIfInBounds_toArray, List.set_cons_zero, List.set_cons_succ]
        (refine wpAnyH_take (i := 14) (v := ?_) rfl (by kernel_rfl) (by kernel_rfl) (by kernel_rfl) (fun _ _ _ h => h) (Or.inl ⟨by rfl, ?_⟩) hHeld ?_; rotate_left; focus (intro wq hSw; (try dsimp only at hSw); go_simp; (try with_reducible rfl); done)); try simp only [Act.put, List.setIfInBounds_toArray, List.set_cons_zero, List.set_cons_succ]
        (refine wpAnyH_take (i := 15) (v := ?_) rfl (by kernel_rfl) (by kernel_rfl) (by kernel_rfl) (fun _ _ _ h => h) (Or.inl ⟨by rfl, ?_⟩) hHeld ?_; rotate_left; focus (intro wq hSw; (try dsimp only at hSw); go_simp; (try with_reducible rfl); done)); try simp only [Act.put, List.setIfInBounds_toArray, List.set_cons_zero, List.set_cons_succ]
        (refine wpAnyH_take (i := 16) (v := ?_) rfl (by kernel_rfl) (by kernel_rfl) (by kernel_rfl) (fun _ _ _ h => h) (Or.inl ⟨by rfl, ?_⟩) hHeld ?_; rotate_left; focus (intro wq hSw; (try dsimp only at hSw); go_simp; (try with_reducible rfl); done)); try simp only [Act.put, List.setIfInBounds_toArray, List.set_cons_zero, List.set_cons_succ]
        refine wpAnyH_ready (rs := [7, 17]) (by kernel_rfl) (by simp) ?_
        refine AllReadyH.cons (i := 7) rfl (fun K hK => ?_) ?_
        · go_simp
          refine hK.out _ _ hHeld (fun hHeld => ?_)
          clear hK K
          try simp only [Act.put, List.setIfInBounds_toArray, List.set_cons_zero, List.set_cons_succ]
          refine wpAnyH_ready (rs := [17]) (by kernel_rfl) (by simp) ?_
          refine AllReadyH.cons (i := 17) rfl (fun K hK => ?_) ?_
          · go_simp
            refine hK.out _ _ hHeld (fun hHeld => ?_)
            clear hK K
            try simp only [Act.put, List.setIfInBounds_toArray, List.set_cons_zero, List.set_cons_succ]
            refine wpAnyH_ready (rs := [18]) (by kernel_rfl) (by simp) ?_
            refine AllReadyH.cons (i := 18) rfl (fun K hK => ?_) ?_
            · go_simp
              go_at_call 199; refine (HIX.out _).mono ?_; rintro e wE ⟨rfl, hbE⟩; have hC4 := CoreAt.below (hC3.out.drew) hbE; have v0 := hC4.c_a; have v1 := hC4.c_b; have v2 := hC4.c_dp; have v3 := hC4.c_cc; have v4 := hC4.c_x; have v5 := hC4.c_y; have v6 := hC4.c_u; have v7 := hC4.c_s; have v8 := hC4.c_pc; have v67 := hC4.c_ea; obtain ⟨g0, g1, g2, g3, g4, g5, g6, g7, g8, g67⟩ := core_frz hC4; have hltE := hC4.lt
              have z0 := (hbE.cell (p := ⟨w1.heap.size, 0, none⟩) hltb3).trans c0; have z1 := (hbE.cell (p := ⟨w1.heap.size, 1, none⟩) hltb3).trans c1; have z2 := (hbE.cell (p := ⟨w1.heap.size, 2, none⟩) hltb3).trans c2; have z3 := (hbE.cell (p := ⟨w1.heap.size, 3, none⟩) hltb3).trans c3; have z4 := hC4.c_value
              (try go_wp2_with fail)
              refine hK.out _ _ ⟨z0, z1, z2, z3, z4⟩ (fun hHeld => ?_)
              clear hK K
              try simp only [Act.put, List.setIfInBounds_toArray, List.set_cons_zero, List.set_cons_succ]
              (refine wpAnyH_take (i := 19) (v := ?_) rfl (by kernel_rfl) (by kernel_rfl) (by kernel_rfl) (fun _ _ _ h => h) (Or.inl ⟨by rfl, ?_⟩) hHeld ?_; rotate_left; focus (intro wq hSw; (try dsimp only at hSw); go_simp; (try with_reducible rfl); done)); try simp only [Act.put, List.setIfInBounds_toArray, List.set_cons_zero, List.set_cons_succ]
              (refine wpAnyH_take (i := 20) (v := ?_) rfl (by kernel_rfl) (by kernel_rfl) (by kernel_rfl) (fun _ _ _ h => h) (Or.inl ⟨by rfl, ?_⟩) hHeld ?_; rotate_left; focus (intro wq hSw; (try dsimp only at hSw); go_simp; (try with_reducible rfl); done)); try simp only [Act.put, List.setIfInBounds_toArray, List.set_cons_zero, List.set_cons_succ]
              (refine wpAnyH_take (i := 21) (v := ?_) rfl (by kernel_rfl) (by kernel_rfl) (by kernel_rfl) (fun _ _ _ h => h) (Or.inl ⟨by rfl, ?_⟩) hHeld ?_; rotate_left; focus (intro wq hSw; (try dsimp only at hSw); go_simp; (try with_reducible rfl); done)); try simp only [Act.put, List.setIfInBounds_toArray, List.set_cons_zero, List.set_cons_succ]
              (refine wpAnyH_take (i := 22) (v := ?_) rfl (by kernel_rfl) (by kernel_rfl) (by kernel_rfl) (fun _ _ _ h => h) (Or.inl ⟨by rfl, ?_⟩) hHeld ?_; rotate_left; focus (intro wq hSw; (try dsimp only at hSw); go_simp; (try with_reducible rfl); done)); try simp only [Act.put, List.setIfInBounds_toArray, List.set_cons_zero, List.set_cons_succ]
              (refine wpAnyH_take (i := 23) (v := ?_) rfl (by kernel_rfl) (by kernel_rfl) (by kernel_rfl) (fun _ _ _ h => h) (Or.inl ⟨by rfl, ?_⟩) hHeld ?_; rotate_left; focus (intro wq hSw; (try dsimp only at hSw); go_simp; (try with_reducible rfl); done)); try simp only [Act.put, List.setIfInBounds_toArray, List.set_cons_zero, List.set_cons_succ]
              refine wpAnyH_ready (rs := [24]) (by kernel_rfl) (by simp) ?_
              refine AllReadyH.cons (i := 24) rfl (fun K hK => ?_) ?_
              · go_simp
                refine hK.out _ _ (by first | (simp only [World.cell?_setCell_far, ne_eq, hpb, not_false_eq_true, set_far, z0, z1, z2, z3, z4, and_self]; done) | (simp [World.cell?_setCell_far, hpb, set_far, z0, z1, z2, z3, z4]; done)) (fun hHeld => ?_)
                clear hK K
                try simp only [Act.put, List.setIfInBounds_toArray, List.set_cons_zero, List.set_cons_succ]
                (refine wpAnyH_take (i := 25) (v := ?_) rfl (by kernel_rfl) (by kernel_rfl) (by kernel_rfl) (fun _ _ _ h => h) (Or.inl ⟨by rfl, ?_⟩) hHeld ?_; rotate_left; focus (intro wq hSw; (try dsimp only at hSw); go_simp; (try with_reducible rfl); done)); try simp only [Act.put, List.setIfInBounds_toArray, List.set_cons_zero, List.set_cons_succ]
                (refine wpAnyH_take (i := 26) (v := ?_) rfl (by kernel_rfl) (by kernel_rfl) (by kernel_rfl) (fun _ _ _ h => h) (Or.inl ⟨by rfl, ?_⟩) hHeld ?_; rotate_left; focus (intro wq hSw; (try dsimp only at hSw); go_simp; (try with_reducible rfl); done)); try simp only [Act.put, List.setIfInBounds_toArray, List.set_cons_zero, List.set_cons_succ]
                (refine wpAnyH_take (i := 27) (v := ?_) rfl (by kernel_rfl) (by kernel_rfl) (by kernel_rfl) (fun _ _ _ h => h) (Or.inl ⟨by rfl, ?_⟩) hHeld ?_; rotate_left; focus (intro wq hSw; (try dsimp only at hSw); go_simp; (try with_reducible rfl); done)); try simp only [Act.put, List.setIfInBounds_toArray, List.set_cons_zero, List.set_cons_succ]
                refine wpAnyH_ready (rs := [28]) (by kernel_rfl) (by simp) ?_
                refine AllReadyH.cons (i := 28) rfl (fun K hK => ?_) ?_
                · go_simp
                  refine hK.out _ _ (by first | (simp only [World.cell?_setCell_far, ne_eq, hpb, not_false_eq_true, set_far, z0, z1, z2, z3, z4, and_self]; done) | (simp [World.cell?_setCell_far, hpb, set_far, z0, z1, z2, z3, z4]; done)) (fun hHeld => ?_)
                  clear hK K
                  try simp only [Act.put, List.setIfInBounds_toArray, List.set_cons_zero, List.set_cons_succ]
                  refine wpAnyH_done (by kernel_rfl) ?_ _
                  refine NoPanic.normal ?_
                  have hg4 := grown_then (grown_drew w hgr3.out) (grown_of_below hbE (some p))
                  have hlt4 := hC4.lt
                  have hC4h := Lib.hid hC4
                  clear hC4
                  go_wp2_with fail
                  go_meet
                  case rel =>
                    rw [hr1]
                    refine ⟨CoreAt.of ?_, ?_⟩
                    · apply Exists.intro
                      refine ⟨?_, ?_⟩
                      · (repeat (with_reducible first | exact hC4h.out | apply CoreAt.drew | apply CoreAt.drewN | apply CoreAt.alloc | apply CoreAt.set_a | apply CoreAt.set_b | apply CoreAt.set_dp | apply CoreAt.set_cc | apply CoreAt.set_x | apply CoreAt.set_y | apply CoreAt.set_u | apply CoreAt.set_s | apply CoreAt.set_pc | apply CoreAt.set_kind | apply CoreAt.set_page | apply CoreAt.set_op | apply CoreAt.set_mode | apply CoreAt.set_reg | apply CoreAt.set_post | apply CoreAt.set_args | apply CoreAt.set_value | apply CoreAt.set_ea | apply CoreAt.set_word | apply CoreAt.set_ptr | apply CoreAt.set_stack | apply CoreAt.set_pushed | apply CoreAt.set_then_ | apply CoreAt.set_vector | apply CoreAt.set_whole | apply CoreAt.set_loads))
                      · rfl
                    · (repeat (with_reducible first | exact World.grownBy.refl _ _ | assumption | apply grown_drew | apply grown_drewN | apply grown_alloc | apply grown_set))
                · exact AllReadyH.nil
              · exact AllReadyH.nil
            · exact AllReadyH.nil
          · exact AllReadyH.nil
        · refine AllReadyH.cons (i := 17) rfl (fun K hK => ?_) ?_
          · go_simp
            refine hK.out _ _ hHeld (fun hHeld => ?_)
            clear hK K
            try simp only [Act.put, List.setIfInBounds_toArray, List.set_cons_zero, List.set_cons_succ]
            refine wpAnyH_ready (rs := [7]) (by kernel_rfl) (by simp) ?_
            refine AllReadyH.cons (i := 7) rfl (fun K hK => ?_) ?_
            · go_simp
              refine hK.out _ _ hHeld (fun hHeld => ?_)
              clear hK K
              try simp only [Act.put, List.setIfInBounds_toArray, List.set_cons_zero, List.set_cons_succ]
              refine wpAnyH_ready (rs := [18]) (by kernel_rfl) (by simp) ?_
              refine AllReadyH.cons (i := 18) rfl (fun K hK => ?_) ?_
              · go_simp
                go_at_call 199; refine (HIX.out _).mono ?_; rintro e wE ⟨rfl, hbE⟩; have hC4 := CoreAt.below (hC3.out.drew) hbE; have v0 := hC4.c_a; have v1 := hC4.c_b; have v2 := hC4.c_dp; have v3 := hC4.c_cc; have v4 := hC4.c_x; have v5 := hC4.c_y; have v6 := hC4.c_u; have v7 := hC4.c_s; have v8 := hC4.c_pc; have v67 := hC4.c_ea; obtain ⟨g0, g1, g2, g3, g4, g5, g6, g7, g8, g67⟩ := core_frz hC4; have hltE := hC4.lt
                have z0 := (hbE.cell (p := ⟨w1.heap.size, 0, none⟩) hltb3).trans c0; have z1 := (hbE.cell (p := ⟨w1.heap.size, 1, none⟩) hltb3).trans c1; have z2 := (hbE.cell (p := ⟨w1.heap.size, 2, none⟩) hltb3).trans c2; have z3 := (hbE.cell (p := ⟨w1.heap.size, 3, none⟩) hltb3).trans c3; have z4 := hC4.c_value
                (try go_wp2_with fail)
                refine hK.out _ _ ⟨z0, z1, z2, z3, z4⟩ (fun hHeld => ?_)
                clear hK K
                try simp only [Act.put, List.setIfInBounds_toArray, List.set_cons_zero, List.set_cons_succ]
                (refine wpAnyH_take (i := 19) (v := ?_) rfl (by kernel_rfl) (by kernel_rfl) (by kernel_rfl) (fun _ _ _ h => h) (Or.inl ⟨by rfl, ?_⟩) hHeld ?_; rotate_left; focus (intro wq hSw; (try dsimp only at hSw); go_simp; (try with_reducible rfl); done)); try simp only [Act.put, List.setIfInBounds_toArray, List.set_cons_zero, List.set_cons_succ]
                (refine wpAnyH_take (i := 20) (v := ?_) rfl (by kernel_rfl) (by kernel_rfl) (by kernel_rfl) (fun _ _ _ h => h) (Or.inl ⟨by rfl, ?_⟩) hHeld ?_; rotate_left; focus (intro wq hSw; (try dsimp only at hSw); go_simp; (try with_reducible rfl); done)); try simp only [Act.put, List.setIfInBounds_toArray, List.set_cons_zero, List.set_cons_succ]
                (refine wpAnyH_take (i := 21) (v := ?_) rfl (by kernel_rfl) (by kernel_rfl) (by kernel_rfl) (fun _ _ _ h => h) (Or.inl ⟨by rfl, ?_⟩) hHeld ?_; rotate_left; focus (intro wq hSw; (try dsimp only at hSw); go_simp; (try with_reducible rfl); done)); try simp only [Act.put, List.setIfInBounds_toArray, List.set_cons_zero, List.set_cons_succ]
                (refine wpAnyH_take (i := 22) (v := ?_) rfl (by kernel_rfl) (by kernel_rfl) (by kernel_rfl) (fun _ _ _ h => h) (Or.inl ⟨by rfl, ?_⟩) hHeld ?_; rotate_left; focus (intro wq hSw; (try dsimp only at hSw); go_simp; (try with_reducible rfl); done)); try simp only [Act.put, List.setIfInBounds_toArray, List.set_cons_zero, List.set_cons_succ]
                (refine wpAnyH_take (i := 23) (v := ?_) rfl (by kernel_rfl) (by kernel_rfl) (by kernel_rfl) (fun _ _ _ h => h) (Or.inl ⟨by rfl, ?_⟩) hHeld ?_; rotate_left; focus (intro wq hSw; (try dsimp only at hSw); go_simp; (try with_reducible rfl); done)); try simp only [Act.put, List.setIfInBounds_toArray, List.set_cons_zero, List.set_cons_succ]
                refine wpAnyH_ready (rs := [24]) (by kernel_rfl) (by simp) ?_
                refine AllReadyH.cons (i := 24) rfl (fun K hK => ?_) ?_
                · go_simp
                  refine hK.out _ _ (by first | (simp only [World.cell?_setCell_far, ne_eq, hpb, not_false_eq_true, set_far, z0, z1, z2, z3, z4, and_self]; done) | (simp [World.cell?_setCell_far, hpb, set_far, z0, z1, z2, z3, z4]; done)) (fun hHeld => ?_)
                  clear hK K
                  try simp only [Act.put, List.setIfInBounds_toArray, List.set_cons_zero, List.set_cons_succ]
                  (refine wpAnyH_take (i := 25) (v := ?_) rfl (by kernel_rfl) (by kernel_rfl) (by kernel_rfl) (fun _ _ _ h => h) (Or.inl ⟨by rfl, ?_⟩) hHeld ?_; rotate_left; focus (intro wq hSw; (try dsimp only at hSw); go_simp; (try with_reducible rfl); done)); try simp only [Act.put, List.setIfInBounds_toArray, List.set_cons_zero, List.set_cons_succ]
                  (refine wpAnyH_take (i := 26) (v := ?_) rfl (by kernel_rfl) (by kernel_rfl) (by kernel_rfl) (fun _ _ _ h => h) (Or.inl ⟨by rfl, ?_⟩) hHeld ?_; rotate_left; focus (intro wq hSw; (try dsimp only at hSw); go_simp; (try with_reducible rfl); done)); try simp only [Act.put, List.setIfInBounds_toArray, List.set_cons_zero, List.set_cons_succ]
                  (refine wpAnyH_take (i := 27) (v := ?_) rfl (by kernel_rfl) (by kernel_rfl) (by kernel_rfl) (fun _ _ _ h => h) (Or.inl ⟨by rfl, ?_⟩) hHeld ?_; rotate_left; focus (intro wq hSw; (try dsimp only at hSw); go_simp; (try with_reducible rfl); done)); try simp only [Act.put, List.setIfInBounds_toArray, List.set_cons_zero, List.set_cons_succ]
                  refine wpAnyH_ready (rs := [28]) (by kernel_rfl) (by simp) ?_
                  refine AllReadyH.cons (i := 28) rfl (fun K hK => ?_) ?_
                  · go_simp
                    refine hK.out _ _ (by first | (simp only [World.cell?_setCell_far, ne_eq, hpb, not_false_eq_true, set_far, z0, z1, z2, z3, z4, and_self]; done) | (simp [World.cell?_setCell_far, hpb, set_far, z0, z1, z2, z3, z4]; done)) (fun hHeld => ?_)
                    clear hK K
                    try simp only [Act.put, List.setIfInBounds_toArray, List.set_cons_zero, List.set_cons_succ]
                    refine wpAnyH_done (by kernel_rfl) ?_ _
                    refine NoPanic.normal ?_
                    have hg4 := grown_then (grown_drew w hgr3.out) (grown_of_below hbE (some p))
                    have hlt4 := hC4.lt
                    have hC4h := Lib.hid hC4
                    clear hC4
                    go_wp2_with fail
                    go_meet
                    case rel =>
                      rw [hr1]
                      refine ⟨CoreAt.of ?_, ?_⟩
                      · apply Exists.intro
                        refine ⟨?_, ?_⟩
                        · (repeat (with_reducible first | exact hC4h.out | apply CoreAt.drew | apply CoreAt.drewN | apply CoreAt.alloc | apply CoreAt.set_a | apply CoreAt.set_b | apply CoreAt.set_dp | apply CoreAt.set_cc | apply CoreAt.set_x | apply CoreAt.set_y | apply CoreAt.set_u | apply CoreAt.set_s | apply CoreAt.set_pc | apply CoreAt.set_kind | apply CoreAt.set_page | apply CoreAt.set_op | apply CoreAt.set_mode | apply CoreAt.set_reg | apply CoreAt.set_post | apply CoreAt.set_args | apply CoreAt.set_value | apply CoreAt.set_ea | apply CoreAt.set_word | apply CoreAt.set_ptr | apply CoreAt.set_stack | apply CoreAt.set_pushed | apply CoreAt.set_then_ | apply CoreAt.set_vector | apply CoreAt.set_whole | apply CoreAt.set_loads))
                        · rfl
                      · (repeat (with_reducible first | exact World.grownBy.refl _ _ | assumption | apply grown_drew | apply grown_drewN | apply grown_alloc | apply grown_set))
                  · exact AllReadyH.nil
                · exact AllReadyH.nil
              · exact AllReadyH.nil
            · exact AllReadyH.nil
          · exact AllReadyH.nil
      · have hv : (if P.bytes = 1 then sext (lo s.value) else s.value) = s.value := if_neg hby
        rw [hv] at hr1
        clear hv
        have bby : (P.bytes == 1) = false := beq_eq_false_iff_ne.mpr hby
        clear hby
        obtain ⟨⟨xe, xr⟩, hX⟩ : ∃ X, indexOf P s.r s.value s.r.pc = X := ⟨_, rfl⟩
        have HIX := Lib.hid (fun W => indexOf_t P s.r s.value s.r.pc W)
        rw [hX] at HIX
        try dsimp only at hr1
        rw [hX] at hr1
        clear hX
        clear hB2
        have hD3 := hC2.out.drew
        obtain ⟨ring3, qa3, lA3, lc3, hI3⟩ := id hD3
        have u0 := hD3.c_a
        have u1 := hD3.c_b
        have u2 := hD3.c_dp
        have u3 := hD3.c_cc
        have u4 := hD3.c_x
        have u5 := hD3.c_y
        have u6 := hD3.c_u
        have u7 := hD3.c_s
        have u8 := hD3.c_pc
        have u66 := hD3.c_value
        clear hI3 hD3
        have c0 : w2.drew.cell? ⟨w1.heap.size, 0, none⟩ = _ := b0
        have c1 : w2.drew.cell? ⟨w1.heap.size, 1, none⟩ = _ := b1
        have c2 : w2.drew.cell? ⟨w1.heap.size, 2, none⟩ = _ := b2
        have c3 : w2.drew.cell? ⟨w1.heap.size, 3, none⟩ = _ := b3
        have hlt3 : p < w2.drew.heap.size := hlt2
        have hltb3 : w1.heap.size < w2.drew.heap.size := hltb
        go_upto_region 13 with fail
        clear F2 b0 b1 b2 b3
        refine wp_region_noPanic ?_
        refine wp_region_held_drew (S := fun W => W.cell? ⟨w1.heap.size, 0, none⟩ = some (.int .i64 P.kind) ∧ W.cell? ⟨w1.heap.size, 1, none⟩ = some (.int .i64 P.reg) ∧ W.cell? ⟨w1.heap.size, 2, none⟩ = some (.int .u16 (P.off.toNat : Int)) ∧ W.cell? ⟨w1.heap.size, 3, none⟩ = some (.bool P.ind) ∧ W.cell? ⟨p, 66, none⟩ = some (.int .u16 (s.value.toNat : Int))) (by kernel_rfl) ⟨c0, c1, c2, c3, u66⟩ (fun hHeld => ?_)
        (refine wpAnyH_take (i := 0) (v := ?_) rfl (by kernel_rfl) (by kernel_rfl) (by kernel_rfl) (fun _ _ _ h => h) (Or.inl ⟨by rfl, ?_⟩) hHeld ?_; rotate_left; focus (intro wq hSw; (try dsimp only at hSw); go_simp; (try with_reducible rfl); done)); try simp only [Act.put, List.setIfInBounds_toArray, List.set_cons_zero, List.set_cons_succ]
        (refine wpAnyH_take (i := 1) (v := ?_) rfl (by kernel_rfl) (by kernel_rfl) (by kernel_rfl) (fun _ _ _ h => h) (Or.inl ⟨by rfl, ?_⟩) hHeld ?_; rotate_left; focus (intro wq hSw; (try dsimp only at hSw); go_simp; (try with_reducible rfl); done)); try simp only [Act.put, List.setIfInBounds_toArray, List.set_cons_zero, List.set_cons_succ]
        (refine wpAnyH_take (i := 2) (v := ?_) rfl (by kernel_rfl) (by kernel_rfl) (by kernel_rfl) (fun _ _ _ h => h) (Or.inl ⟨by rfl, ?_⟩) hHeld ?_; rotate_left; focus (intro wq hSw; (try dsimp only at hSw); go_simp; (try with_reducible rfl); done)); try simp only [Act.put, List.setIfInBounds_toArray, List.set_cons_zero, List.set_cons_succ]
        (refine wpAnyH_take (i := 3) (v := ?_) rfl (by kernel_rfl) (by kernel_rfl) (by kernel_rfl) (fun _ _ _ h => h) (Or.inl ⟨by rfl, ?_⟩) hHeld ?_; rotate_left; focus (intro wq hSw; (try dsimp only at hSw); go_simp; (try with_reducible rfl); done)); try simp only [Act.put, List.setIfInBounds_toArray, List.set_cons_zero, List.set_cons_succ]
        (refine wpAnyH_take (i := 4) (v := ?_) rfl (by kernel_rfl) (by kernel_rfl) (by kernel_rfl) (fun _ _ _ h => h) (Or.inl ⟨by rfl, ?_⟩) hHeld ?_; rotate_left; focus (intro wq hSw; (try dsimp only at hSw); go_simp; (try with_reducible rfl); done)); try simp only [Act.put, List.setIfInBounds_toArray, List.set_cons_zero, List.set_cons_succ]
        (refine wpAnyH_take (i := 5) (v := ?_) rfl (by kernel_rfl) (by kernel_rfl) (by kernel_rfl) (fun _ _ _ h => h) (Or.inl ⟨by rfl, ?_⟩) hHeld ?_; rotate_left; focus (intro wq hSw; (try dsimp only at hSw); go_simp; (try with_reducible rfl); done)); try simp only [Act.put, List.setIfInBounds_toArray, List.set_cons_zero, List.set_cons_succ]
        (refine wpAnyH_take (i := 6) (v := ?_) rfl (by kernel_rfl) (by kernel_rfl) (by kernel_rfl) (fun _ _ _ h => h) (Or.inl ⟨by rfl, ?_⟩) hHeld ?_; rotate_left; focus (intro wq hSw; (try dsimp only at hSw); go_simp; (try with_reducible rfl); done)); try simp only [Act.put, List.setIfInBounds_toArray, List.set_cons_zero, List.set_cons_succ]
        (refine wpAnyH_take (i := 8) (v := ?_) rfl (by kernel_rfl) (by kernel_rfl) (by kernel_rfl) (fun _ _ _ h => h) (Or.inl ⟨by rfl, ?_⟩) hHeld ?_; rotate_left; focus (intro wq hSw; (try dsimp only at hSw); go_simp; (try with_reducible rfl); done)); try simp only [Act.put, List.setIfInBounds_toArray, List.set_cons_zero, List.set_cons_succ]
        (refine wpAnyH_take (i := 9) (v := ?_) rfl (by kernel_rfl) (by kernel_rfl) (by kernel_rfl) (fun _ _ _ h => h) (Or.inl ⟨by rfl, ?_⟩) hHeld ?_; rotate_left; focus (intro wq hSw; (try dsimp only at hSw); go_simp; (try with_reducible rfl); done)); try simp only [Act.put, List.setIfInBounds_toArray, List.set_cons_zero, List.set_cons_succ]
        (refine wpAnyH_take (i := 10) (v := ?_) rfl (by kernel_rfl) (by kernel_rfl) (by kernel_rfl) (fun _ _ _ h => h) (Or.inl ⟨by rfl, ?_⟩) hHeld ?_; rotate_left; focus (intro wq hSw; (try dsimp only at hSw); go_simp; (try with_reducible rfl); done)); try simp only [Act.put, List.setIfInBounds_toArray, List.set_cons_zero, List.set_cons_succ]
        (refine wpAnyH_take (i := 11) (v := ?_) rfl (by kernel_rfl) (by kernel_rfl) (by kernel_rfl) (fun _ _ _ h => h) (Or.inl ⟨by rfl, ?_⟩) hHeld ?_; rotate_left; focus (intro wq hSw; (try dsimp only at hSw); go_simp; (try with_reducible rfl); done)); try simp only [Act.put, List.setIfInBounds_toArray, List.set_cons_zero, List.set_cons_succ]
        (refine wpAnyH_take (i := 12) (v := ?_) rfl (by kernel_rfl) (by kernel_rfl) (by kernel_rfl) (fun _ _ _ h => h) (Or.inl ⟨by rfl, ?_⟩) hHeld ?_; rotate_left; focus (intro wq hSw; (try dsimp only at hSw); go_simp; (try with_reducible rfl); done)); try simp only [Act.put, List.setIfInBounds_toArray, List.set_cons_zero, List.set_cons_succ]
        (refine wpAnyH_take (i := 13) (v := ?_) rfl (by kernel_rfl) (by kernel_rfl) (by kernel_rfl) (fun _ _ _ h => h) (Or.inl ⟨by rfl, ?_⟩) hHeld ?_; rotate_left; focus (intro wq hSw; (try dsimp only at hSw); go_simp; (try with_reducible rfl); done)); try simp only [Act.put, List.setIfInBounds_toArray, List.set_cons_zero, List.set_cons_succ]
        (refine wpAnyH_take (i := 14) (v := ?_) rfl (by kernel_rfl) (by kernel_rfl) (by kernel_rfl) (fun _ _ _ h => h) (Or.inl ⟨by rfl, ?_⟩) hHeld ?_; rotate_left; focus (intro wq hSw; (try dsimp only at hSw); go_simp; (try with_reducible rfl); done)); try simp only [Act.put, List.setIfInBounds_toArray, List.set_cons_zero, List.set_cons_succ]
        (refine wpAnyH_take (i := 15) (v := ?_) rfl (by kernel_rfl) (by kernel_rfl) (by kernel_rfl) (fun _ _ _ h => h) (Or.inl ⟨by rfl, ?_⟩) hHeld ?_; rotate_left; focus (intro wq hSw; (try dsimp only at hSw); go_simp; (try with_reducible rfl); done)); try simp only [Act.put, List.setIfInBounds_toArray, List.set_cons_zero, List.set_cons_succ]
        (refine wpAnyH_take (i := 16) (v := ?_) rfl (by kernel_rfl) (by kernel_rfl) (by kernel_rfl) (fun _ _ _ h => h) (Or.inl ⟨by rfl, ?_⟩) hHeld ?_; rotate_left; focus (intro wq hSw; (try dsimp only at hSw); go_simp; (try with_reducible rfl); done)); try simp only [Act.put, List.setIfInBounds_toArray, List.set_cons_zero, List.set_cons_succ]
        refine wpAnyH_ready (rs := [7, 17]) (by kernel_rfl) (by simp) ?_
        refine AllReadyH.cons (i := 7) rfl (fun K hK => ?_) ?_
        · go_simp
          refine hK.out _ _ hHeld (fun hHeld => ?_)
          clear hK K
          try simp only [Act.put, List.setIfInBounds_toArray, List.set_cons_zero, List.set_cons_succ]
          refine wpAnyH_ready (rs := [17]) (by kernel_rfl) (by simp) ?_
          refine AllReadyH.cons (i := 17) rfl (fun K hK => ?_) ?_
          · go_simp
            refine hK.out _ _ hHeld (fun hHeld => ?_)
            clear hK K
            try simp only [Act.put, List.setIfInBounds_toArray, List.set_cons_zero, List.set_cons_succ]
            refine wpAnyH_ready (rs := [18]) (by kernel_rfl) (by simp) ?_
            refine AllReadyH.cons (i := 18) rfl (fun K hK => ?_) ?_
            · go_simp
              go_at_call 199; refine (HIX.out _).mono ?_; rintro e wE ⟨rfl, hbE⟩; have hC4 := CoreAt.below (hC2.out.drew) hbE; have v0 := hC4.c_a; have v1 := hC4.c_b; have v2 := hC4.c_dp; have v3 := hC4.c_cc; have v4 := hC4.c_x; have v5 := hC4.c_y; have v6 := hC4.c_u; have v7 := hC4.c_s; have v8 := hC4.c_pc; have v67 := hC4.c_ea; obtain ⟨g0, g1, g2, g3, g4, g5, g6, g7, g8, g67⟩ := core_frz hC4; have hltE := hC4.lt
              have z0 := (hbE.cell (p := ⟨w1.heap.size, 0, none⟩) hltb3).trans c0; have z1 := (hbE.cell (p := ⟨w1.heap.size, 1, none⟩) hltb3).trans c1; have z2 := (hbE.cell (p := ⟨w1.heap.size, 2, none⟩) hltb3).trans c2; have z3 := (hbE.cell (p := ⟨w1.heap.size, 3, none⟩) hltb3).trans c3; have z4 := hC4.c_value
              (try go_wp2_with fail)
              refine hK.out _ _ ⟨z0, z1, z2, z3, z4⟩ (fun hHeld => ?_)
              clear hK K
              try simp only [Act.put, List.setIfInBounds_toArray, List.set_cons_zero, List.set_cons_succ]
              (refine wpAnyH_take (i := 19) (v := ?_) rfl (by kernel_rfl) (by kernel_rfl) (by kernel_rfl) (fun _ _ _ h => h) (Or.inl ⟨by rfl, ?_⟩) hHeld ?_; rotate_left; focus (intro wq hSw; (try dsimp only at hSw); go_simp; (try with_reducible rfl); done)); try simp only [Act.put, List.setIfInBounds_toArray, List.set_cons_zero, List.set_cons_succ]
              (refine wpAnyH_take (i := 20) (v := ?_) rfl (by kernel_rfl) (by kernel_rfl) (by kernel_rfl) (fun _ _ _ h => h) (Or.inl ⟨by rfl, ?_⟩) hHeld ?_; rotate_left; focus (intro wq hSw; (try dsimp only at hSw); go_simp; (try with_reducible rfl); done)); try simp only [Act.put, List.setIfInBounds_toArray, List.set_cons_zero, List.set_cons_succ]
              (refine wpAnyH_take (i := 21) (v := ?_) rfl (by kernel_rfl) (by kernel_rfl) (by kernel_rfl) (fun _ _ _ h => h) (Or.inl ⟨by rfl, ?_⟩) hHeld ?_; rotate_left; focus (intro wq hSw; (try dsimp only at hSw); go_simp; (try with_reducible rfl); done)); try simp only [Act.put, List.setIfInBounds_toArray, List.set_cons_zero, List.set_cons_succ]
              (refine wpAnyH_take (i := 22) (v := ?_) rfl (by kernel_rfl) (by kernel_rfl) (by kernel_rfl) (fun _ _ _ h => h) (Or.inl ⟨by rfl, ?_⟩) hHeld ?_; rotate_left; focus (intro wq hSw; (try dsimp only at hSw); go_simp; (try with_reducible rfl); done)); try simp only [Act.put, List.setIfInBounds_toArray, List.set_cons_zero, List.set_cons_succ]
              (refine wpAnyH_take (i := 23) (v := ?_) rfl (by kernel_rfl) (by kernel_rfl) (by kernel_rfl) (fun _ _ _ h => h) (Or.inl ⟨by rfl, ?_⟩) hHeld ?_; rotate_left; focus (intro wq hSw; (try dsimp only at hSw); go_simp; (try with_reducible rfl); done)); try simp only [Act.put, List.setIfInBounds_toArray, List.set_cons_zero, List.set_cons_succ]
              refine wpAnyH_ready (rs := [24]) (by kernel_rfl) (by simp) ?_
              refine AllReadyH.cons (i := 24) rfl (fun K hK => ?_) ?_
              · go_simp
                refine hK.out _ _ (by first | (simp only [World.cell?_setCell_far, ne_eq, hpb, not_false_eq_true, set_far, z0, z1, z2, z3, z4, and_self]; done) | (simp [World.cell?_setCell_far, hpb, set_far, z0, z1, z2, z3, z4]; done)) (fun hHeld => ?_)
                clear hK K
                try simp only [Act.put, List.setIfInBounds_toArray, List.set_cons_zero, List.set_cons_succ]
                (refine wpAnyH_take (i := 25) (v := ?_) rfl (by kernel_rfl) (by kernel_rfl) (by kernel_rfl) (fun _ _ _ h => h) (Or.inl ⟨by rfl, ?_⟩) hHeld ?_; rotate_left; focus (intro wq hSw; (try dsimp only at hSw); go_simp; (try with_reducible rfl); done)); try simp only [Act.put, List.setIfInBounds_toArray, List.set_cons_zero, List.set_cons_succ]
                (refine wpAnyH_take (i := 26) (v := ?_) rfl (by kernel_rfl) (by kernel_rfl) (by kernel_rfl) (fun _ _ _ h => h) (Or.inl ⟨by rfl, ?_⟩) hHeld ?_; rotate_left; focus (intro wq hSw; (try dsimp only at hSw); go_simp; (try with_reducible rfl); done)); try simp only [Act.put, List.setIfInBounds_toArray, List.set_cons_zero, List.set_cons_succ]
                (refine wpAnyH_take (i := 27) (v := ?_) rfl (by kernel_rfl) (by kernel_rfl) (by kernel_rfl) (fun _ _ _ h => h) (Or.inl ⟨by rfl, ?_⟩) hHeld ?_; rotate_left; focus (intro wq hSw; (try dsimp only at hSw); go_simp; (try with_reducible rfl); done)); try simp only [Act.put, List.setIfInBounds_toArray, List.set_cons_zero, List.set_cons_succ]
                refine wpAnyH_ready (rs := [28]) (by kernel_rfl) (by simp) ?_
                refine AllReadyH.cons (i := 28) rfl (fun K hK => ?_) ?_
                · go_simp
                  refine hK.out _ _ (by first | (simp only [World.cell?_setCell_far, ne_eq, hpb, not_false_eq_true, set_far, z0, z1, z2, z3, z4, and_self]; done) | (simp [World.cell?_setCell_far, hpb, set_far, z0, z1, z2, z3, z4]; done)) (fun hHeld => ?_)
                  clear hK K
                  try simp only [Act.put, List.setIfInBounds_toArray, List.set_cons_zero, List.set_cons_succ]
                  refine wpAnyH_done (by kernel_rfl) ?_ _
                  refine NoPanic.normal ?_
                  have hg4 := grown_then (grown_drew w hgr2.out) (grown_of_below hbE (some p))
                  have hlt4 := hC4.lt
                  have hC4h := Lib.hid hC4
                  clear hC4
                  go_wp2_with fail
                  go_meet
                  case rel =>
                    rw [hr1]
                    refine ⟨CoreAt.of ?_, ?_⟩
                    · apply Exists.intro
                      refine ⟨?_, ?_⟩
                      · (repeat (with_reducible first | exact hC4h.out | apply CoreAt.drew | apply CoreAt.drewN | apply CoreAt.alloc | apply CoreAt.set_a | apply CoreAt.set_b | apply CoreAt.set_dp | apply CoreAt.set_cc | apply CoreAt.set_x | apply CoreAt.set_y | apply CoreAt.set_u | apply CoreAt.set_s | apply CoreAt.set_pc | apply CoreAt.set_kind | apply CoreAt.set_page | apply CoreAt.set_op | apply CoreAt.set_mode | apply CoreAt.set_reg | apply CoreAt.set_post | apply CoreAt.set_args | apply CoreAt.set_value | apply CoreAt.set_ea | apply CoreAt.set_word | apply CoreAt.set_ptr | apply CoreAt.set_stack | apply CoreAt.set_pushed | apply CoreAt.set_then_ | apply CoreAt.set_vector | apply CoreAt.set_whole | apply CoreAt.set_loads))
                      · rfl
                    · (repeat (with_reducible first | exact World.grownBy.refl _ _ | assumption | apply grown_drew | apply grown_drewN | apply grown_alloc | apply grown_set))
                · exact AllReadyH.nil
              · exact AllReadyH.nil
            · exact AllReadyH.nil
          · exact AllReadyH.nil
        · refine AllReadyH.cons (i := 17) rfl (fun K hK => ?_) ?_
          · go_simp
            refine hK.out _ _ hHeld (fun hHeld => ?_)
            clear hK K
            try simp only [Act.put, List.setIfInBounds_toArray, List.set_cons_zero, List.set_cons_succ]
            refine wpAnyH_ready (rs := [7]) (by kernel_rfl) (by simp) ?_
            refine AllReadyH.cons (i := 7) rfl (fun K hK => ?_) ?_
            · go_simp
              refine hK.out _ _ hHeld (fun hHeld => ?_)
              clear hK K
              try simp only [Act.put, List.setIfInBounds_toArray, List.set_cons_zero, List.set_cons_succ]
              refine wpAnyH_ready (rs := [18]) (by kernel_rfl) (by simp) ?_
              refine AllReadyH.cons (i := 18) rfl (fun K hK => ?_) ?_
              · go_simp
                go_at_call 199; refine (HIX.out _).mono ?_; rintro e wE ⟨rfl, hbE⟩; have hC4 := CoreAt.below (hC2.out.drew) hbE; have v0 := hC4.c_a; have v1 := hC4.c_b; have v2 := hC4.c_dp; have v3 := hC4.c_cc; have v4 := hC4.c_x; have v5 := hC4.c_y; have v6 := hC4.c_u; have v7 := hC4.c_s; have v8 := hC4.c_pc; have v67 := hC4.c_ea; obtain ⟨g0, g1, g2, g3, g4, g5, g6, g7, g8, g67⟩ := core_frz hC4; have hltE := hC4.lt
                have z0 := (hbE.cell (p := ⟨w1.heap.size, 0, none⟩) hltb3).trans c0; have z1 := (hbE.cell (p := ⟨w1.heap.size, 1, none⟩) hltb3).trans c1; have z2 := (hbE.cell (p := ⟨w1.heap.size, 2, none⟩) hltb3).trans c2; have z3 := (hbE.cell (p := ⟨w1.heap.size, 3, none⟩) hltb3).trans c3; have z4 := hC4.c_value
                (try go_wp2_with fail)
                refine hK.out _ _ ⟨z0, z1, z2, z3, z4⟩ (fun hHeld => ?_)
                clear hK K
                try simp only [Act.put, List.setIfInBounds_toArray, List.set_cons_zero, List.set_cons_succ]
                (refine wpAnyH_take (i := 19) (v := ?_) rfl (by kernel_rfl) (by kernel_rfl) (by kernel_rfl) (fun _ _ _ h => h) (Or.inl ⟨by rfl, ?_⟩) hHeld ?_; rotate_left; focus (intro wq hSw; (try dsimp only at hSw); go_simp; (try with_reducible rfl); done)); try simp only [Act.put, List.setIfInBounds_toArray, List.set_cons_zero, List.set_cons_succ]
                (refine wpAnyH_take (i := 20) (v := ?_) rfl (by kernel_rfl) (by kernel_rfl) (by kernel_rfl) (fun _ _ _ h => h) (Or.inl ⟨by rfl, ?_⟩) hHeld ?_; rotate_left; focus (intro wq hSw; (try dsimp only at hSw); go_simp; (try with_reducible rfl); done)); try simp only [Act.put, List.setIfInBounds_toArray, List.set_cons_zero, List.set_cons_succ]
                (refine wpAnyH_take (i := 21) (v := ?_) rfl (by kernel_rfl) (by kernel_rfl) (by kernel_rfl) (fun _ _ _ h => h) (Or.inl ⟨by rfl, ?_⟩) hHeld ?_; rotate_left; focus (intro wq hSw; (try dsimp only at hSw); go_simp; (try with_reducible rfl); done)); try simp only [Act.put, List.setIfInBounds_toArray, List.set_cons_zero, List.set_cons_succ]
                (refine wpAnyH_take (i := 22) (v := ?_) rfl (by kernel_rfl) (by kernel_rfl) (by kernel_rfl) (fun _ _ _ h => h) (Or.inl ⟨by rfl, ?_⟩) hHeld ?_; rotate_left; focus (intro wq hSw; (try dsimp only at hSw); go_simp; (try with_reducible rfl); done)); try simp only [Act.put, List.setIfInBounds_toArray, List.set_cons_zero, List.set_cons_succ]
                (refine wpAnyH_take (i := 23) (v := ?_) rfl (by kernel_rfl) (by kernel_rfl) (by kernel_rfl) (fun _ _ _ h => h) (Or.inl ⟨by rfl, ?_⟩) hHeld ?_; rotate_left; focus (intro wq hSw; (try dsimp only at hSw); go_simp; (try with_reducible rfl); done)); try simp only [Act.put, List.setIfInBounds_toArray, List.set_cons_zero, List.set_cons_succ]
                refine wpAnyH_ready (rs := [24]) (by kernel_rfl) (by simp) ?_
                refine AllReadyH.cons (i := 24) rfl (fun K hK => ?_) ?_
                · go_simp
                  refine hK.out _ _ (by first | (simp only [World.cell?_setCell_far, ne_eq, hpb, not_false_eq_true, set_far, z0, z1, z2, z3, z4, and_self]; done) | (simp [World.cell?_setCell_far, hpb, set_far, z0, z1, z2, z3, z4]; done)) (fun hHeld => ?_)
                  clear hK K
                  try simp only [Act.put, List.setIfInBounds_toArray, List.set_cons_zero, List.set_cons_succ]
                  (refine wpAnyH_take (i := 25) (v := ?_) rfl (by kernel_rfl) (by kernel_rfl) (by kernel_rfl) (fun _ _ _ h => h) (Or.inl ⟨by rfl, ?_⟩) hHeld ?_; rotate_left; focus (intro wq hSw; (try dsimp only at hSw); go_simp; (try with_reducible rfl); done)); try simp only [Act.put, List.setIfInBounds_toArray, List.set_cons_zero, List.set_cons_succ]
                  (refine wpAnyH_take (i := 26) (v := ?_) rfl (by kernel_rfl) (by kernel_rfl) (by kernel_rfl) (fun _ _ _ h => h) (Or.inl ⟨by rfl, ?_⟩) hHeld ?_; rotate_left; focus (intro wq hSw; (try dsimp only at hSw); go_simp; (try with_reducible rfl); done)); try simp only [Act.put, List.setIfInBounds_toArray, List.set_cons_zero, List.set_cons_succ]
                  (refine wpAnyH_take (i := 27) (v := ?_) rfl (by kernel_rfl) (by kernel_rfl) (by kernel_rfl) (fun _ _ _ h => h) (Or.inl ⟨by rfl, ?_⟩) hHeld ?_; rotate_left; focus (intro wq hSw; (try dsimp only at hSw); go_simp; (try with_reducible rfl); done)); try simp only [Act.put, List.setIfInBounds_toArray, List.set_cons_zero, List.set_cons_succ]
                  refine wpAnyH_ready (rs := [28]) (by kernel_rfl) (by simp) ?_
                  refine AllReadyH.cons (i := 28) rfl (fun K hK => ?_) ?_
                  · go_simp
                    refine hK.out _ _ (by first | (simp only [World.cell?_setCell_far, ne_eq, hpb, not_false_eq_true, set_far, z0, z1, z2, z3, z4, and_self]; done) | (simp [World.cell?_setCell_far, hpb, set_far, z0, z1, z2, z3, z4]; done)) (fun hHeld => ?_)
                    clear hK K
                    try simp only [Act.put, List.setIfInBounds_toArray, List.set_cons_zero, List.set_cons_succ]
                    refine wpAnyH_done (by kernel_rfl) ?_ _
                    refine NoPanic.normal ?_
                    have hg4 := grown_then (grown_drew w hgr2.out) (grown_of_below hbE (some p))
                    have hlt4 := hC4.lt
                    have hC4h := Lib.hid hC4
                    clear hC4
                    go_wp2_with fail
                    go_meet
                    case rel =>
                      rw [hr1]
                      refine ⟨CoreAt.of ?_, ?_⟩
                      · apply Exists.intro
                        refine ⟨?_, ?_⟩
                        · (repeat (with_reducible first | exact hC4h.out | apply CoreAt.drew | apply CoreAt.drewN | apply CoreAt.alloc | apply CoreAt.set_a | apply CoreAt.set_b | apply CoreAt.set_dp | apply CoreAt.set_cc | apply CoreAt.set_x | apply CoreAt.set_y | apply CoreAt.set_u | apply CoreAt.set_s | apply CoreAt.set_pc | apply CoreAt.set_kind | apply CoreAt.set_page | apply CoreAt.set_op | apply CoreAt.set_mode | apply CoreAt.set_reg | apply CoreAt.set_post | apply CoreAt.set_args | apply CoreAt.set_value | apply CoreAt.set_ea | apply CoreAt.set_word | apply CoreAt.set_ptr | apply CoreAt.set_stack | apply CoreAt.set_pushed | apply CoreAt.set_then_ | apply CoreAt.set_vector | apply CoreAt.set_whole | apply CoreAt.set_loads))
                        · rfl
                      · (repeat (with_reducible first | exact World.grownBy.refl _ _ | assumption | apply grown_drew | apply grown_drewN | apply grown_alloc | apply grown_set))
                  · exact AllReadyH.nil
                · exact AllReadyH.nil
              · exact AllReadyH.nil
            · exact AllReadyH.nil
          · exact AllReadyH.nil
    · have hr1 : s.ready1 = s := by unfold Core.ready1; simp [m6, m7, m3, m5, m4]
      have b6 : (s.e.mode == 6) = false := beq_eq_false_iff_ne.mpr m6
      have b7 : (s.e.mode == 7) = false := beq_eq_false_iff_ne.mpr m7
      have b3 : (s.e.mode == 3) = false := beq_eq_false_iff_ne.mpr m3
      have b5 : (s.e.mode == 5) = false := beq_eq_false_iff_ne.mpr m5
      have b4 : (s.e.mode == 4) = false := beq_eq_false_iff_ne.mpr m4
      clear m6 m7 m3 m5 m4
      go_wp2
      go_meet
      case rel =>
        rw [hr1]
        refine ⟨CoreAt.of ?_, ?_⟩
        · apply Exists.intro
          refine ⟨?_, ?_⟩
          · (repeat (with_reducible first | exact hC0.out | apply CoreAt.drew | apply CoreAt.drewN | apply CoreAt.alloc | apply CoreAt.set_a | apply CoreAt.set_b | apply CoreAt.set_dp | apply CoreAt.set_cc | apply CoreAt.set_x | apply CoreAt.set_y | apply CoreAt.set_u | apply CoreAt.set_s | apply CoreAt.set_pc | apply CoreAt.set_kind | apply CoreAt.set_page | apply CoreAt.set_op | apply CoreAt.set_mode | apply CoreAt.set_reg | apply CoreAt.set_post | apply CoreAt.set_args | apply CoreAt.set_value | apply CoreAt.set_ea | apply CoreAt.set_word | apply CoreAt.set_ptr | apply CoreAt.set_stack | apply CoreAt.set_pushed | apply CoreAt.set_then_ | apply CoreAt.set_vector | apply CoreAt.set_whole | apply CoreAt.set_loads))
          · rfl
        · (repeat (with_reducible first | exact World.grownBy.refl _ _ | assumption | apply grown_drew | apply grown_drewN | apply grown_alloc | apply grown_set))
  case rest =>
    obtain ⟨hC1, hg1⟩ := hcut
    obtain ⟨s1, hs1⟩ : ∃ s1, s.ready1 = s1 := ⟨_, rfl⟩
    have hrdy : s.ready = s1.ready2 := by rw [← hs1]; rfl
    have o41 : s1.e.op ≠ 41 := by rw [← hs1, ready1_e]; exact H41.out
    rw [hs1] at hC1
    clear hs1
    have hC1h := Lib.hid hC1
    have hg1h := Lib.hid hg1
    clear F hlt hC0 hg1
    obtain ⟨ring1, qa1, lA1, lc1, hI1⟩ := id hC1; have F1 := core_facts hI1
    have hlt1 := hC1.lt
    clear hI1 hC1
    by_cases o12 : s1.e.op = 12
    · replace hrdy : s.ready = { s1 with word := s1.r.get s1.e.reg, r := { s1.r with cc := toldB s1.r.cc (lo (s1.r.get s1.e.reg)) } } := by rw [hrdy]; unfold Core.ready2; simp [o12]
      obtain ⟨G, hG⟩ : ∃ G, s1.r.get s1.e.reg = G := ⟨_, rfl⟩
      rw [hG] at hrdy
      have HG := Lib.hid hG
      have HR := Lib.hid hrdy
      clear hG hrdy
      rw [o12] at F1
      clear o41 o12
      go_wp2
      go_region_held3 (fun W => W.cell? ⟨p, 63, none⟩ = some (.int .i64 s1.e.reg)) (first | (go_keep; done) | assumption | (simp [*, set_far, World.cell?_alloc_some, World.cell?_setCell_far]; done)) (first | (go_at_call 143; refine (Get_core _ _ (CoreAt.below hC1h.out (by repeat (first | exact Below.refl _ _ | apply below_alloc | apply Below.drew | apply below_drewN | (refine below_then ?_ (by assumption)))))).mono ?_; rw [HG.out]; rintro e w1 ⟨rfl, n, rfl⟩))
      have hC3 := Lib.hid ((hC1h.out.drewN (1 + n)).set_word G)
      have hg3 := Lib.hid (grown_set w (grown_drewN w hg1h.out (1 + n)) 68 (.int .u16 (G.toNat : Int)))
      clear F1 hC1h hg1h
      obtain ⟨ring3, qa3, lA3, lc3, hI3⟩ := id hC3.out; have F3 := core_facts hI3
      clear hI3
      have hlt3 := hC3.out.lt
      go_wp2
      skip
      go_region_with ((first | (go_at_call 30; refine (Low_t _ _).mono ?_; rintro e w1 ⟨rfl, rfl⟩) | (go_at_call 200; refine (logicTst_t _ _ _).mono ?_; rintro e wE ⟨rfl, hbE⟩; have hC4 := CoreAt.below (hC3.out.drew) hbE; obtain ⟨ring4, qa4, lA4, lc4, hI4⟩ := id hC4; have F4 := core_facts hI4)))
      all_goals
        have hg4 := grown_then (grown_drew w hg3.out) (grown_of_below hbE (some p))
        have hlt4 := hC4.lt
        have hC4h := Lib.hid hC4
        clear hC4
        go_wp2
        first | go_end0 | refine bodyPost_ret (results_none rfl _ _ _) rfl ?_
        rw [HR.out]; refine ⟨rfl, CoreAt.of ?_, ?_⟩
        · apply Exists.intro
          refine ⟨?_, ?_⟩
          · (repeat (with_reducible first | exact hC4h.out | apply CoreAt.drew | apply CoreAt.drewN | apply CoreAt.alloc | apply CoreAt.set_a | apply CoreAt.set_b | apply CoreAt.set_dp | apply CoreAt.set_cc | apply CoreAt.set_x | apply CoreAt.set_y | apply CoreAt.set_u | apply CoreAt.set_s | apply CoreAt.set_pc | apply CoreAt.set_kind | apply CoreAt.set_page | apply CoreAt.set_op | apply CoreAt.set_mode | apply CoreAt.set_reg | apply CoreAt.set_post | apply CoreAt.set_args | apply CoreAt.set_value | apply CoreAt.set_ea | apply CoreAt.set_word | apply CoreAt.set_ptr | apply CoreAt.set_stack | apply CoreAt.set_pushed | apply CoreAt.set_then_ | apply CoreAt.set_vector | apply CoreAt.set_whole | apply CoreAt.set_loads))
          · rfl
        · (repeat (with_reducible first | exact World.grownBy.refl _ _ | assumption | apply grown_drew | apply grown_drewN | apply grown_alloc | apply grown_set))
    by_cases o25 : s1.e.op = 25
    · replace hrdy : s.ready = { s1 with word := s1.r.get s1.e.reg, r := { s1.r with cc := tstW (s1.r.get s1.e.reg) s1.r.cc } } := by rw [hrdy]; unfold Core.ready2; simp [o25]
      obtain ⟨G, hG⟩ : ∃ G, s1.r.get s1.e.reg = G := ⟨_, rfl⟩
      rw [hG] at hrdy
      have HG := Lib.hid hG
      have HR := Lib.hid hrdy
      clear hG hrdy
      rw [o25] at F1
      clear o41 o12 o25
      go_wp2
      go_region_held3 (fun W => W.cell? ⟨p, 63, none⟩ = some (.int .i64 s1.e.reg)) (first | (go_keep; done) | assumption | (simp [*, set_far, World.cell?_alloc_some, World.cell?_setCell_far]; done)) (first | (go_at_call 143; refine (Get_core _ _ (CoreAt.below hC1h.out (by repeat (first | exact Below.refl _ _ | apply below_alloc | apply Below.drew | apply below_drewN | (refine below_then ?_ (by assumption)))))).mono ?_; rw [HG.out]; rintro e w1 ⟨rfl, n, rfl⟩))
      have hC3 := Lib.hid ((hC1h.out.drewN (1 + n)).set_word G)
      have hg3 := Lib.hid (grown_set w (grown_drewN w hg1h.out (1 + n)) 68 (.int .u16 (G.toNat : Int)))
      clear F1 hC1h hg1h
      obtain ⟨ring3, qa3, lA3, lc3, hI3⟩ := id hC3.out; have F3 := core_facts hI3
      clear hI3
      have hlt3 := hC3.out.lt
      go_wp2
      skip
      go_region_with ((first | (go_at_call 201; refine (wideTst_t _ _ _).mono ?_; rintro e wE ⟨rfl, hbE⟩; have hC4 := CoreAt.below (hC3.out.drew) hbE; obtain ⟨ring4, qa4, lA4, lc4, hI4⟩ := id hC4; have F4 := core_facts hI4)))
      all_goals
        have hg4 := grown_then (grown_drew w hg3.out) (grown_of_below hbE (some p))
        have hlt4 := hC4.lt
        have hC4h := Lib.hid hC4
        clear hC4
        go_wp2
        first | go_end0 | refine bodyPost_ret (results_none rfl _ _ _) rfl ?_
        rw [HR.out]; refine ⟨rfl, CoreAt.of ?_, ?_⟩
        · apply Exists.intro
          refine ⟨?_, ?_⟩
          · (repeat (with_reducible first | exact hC4h.out | apply CoreAt.drew | apply CoreAt.drewN | apply CoreAt.alloc | apply CoreAt.set_a | apply CoreAt.set_b | apply CoreAt.set_dp | apply CoreAt.set_cc | apply CoreAt.set_x | apply CoreAt.set_y | apply CoreAt.set_u | apply CoreAt.set_s | apply CoreAt.set_pc | apply CoreAt.set_kind | apply CoreAt.set_page | apply CoreAt.set_op | apply CoreAt.set_mode | apply CoreAt.set_reg | apply CoreAt.set_post | apply CoreAt.set_args | apply CoreAt.set_value | apply CoreAt.set_ea | apply CoreAt.set_word | apply CoreAt.set_ptr | apply CoreAt.set_stack | apply CoreAt.set_pushed | apply CoreAt.set_then_ | apply CoreAt.set_vector | apply CoreAt.set_whole | apply CoreAt.set_loads))
          · rfl
        · (repeat (with_reducible first | exact World.grownBy.refl _ _ | assumption | apply grown_drew | apply grown_drewN | apply grown_alloc | apply grown_set))
    · replace hrdy : s.ready = s1 := by rw [hrdy]; unfold Core.ready2; simp [o12, o25, o41]
      have b12 : (s1.e.op == 12) = false := beq_eq_false_iff_ne.mpr o12
      have b25 : (s1.e.op == 25) = false := beq_eq_false_iff_ne.mpr o25
      have b41 : (s1.e.op == 41) = false := beq_eq_false_iff_ne.mpr o41
      clear o12 o25 o41
      go_wp2
      first | go_end0 | refine bodyPost_ret (results_none rfl _ _ _) rfl ?_
      rw [hrdy]; exact ⟨rfl, hC1h.out, hg1h.out⟩
end Go.Proofs.YtkdaphkpllgmbaaGreat

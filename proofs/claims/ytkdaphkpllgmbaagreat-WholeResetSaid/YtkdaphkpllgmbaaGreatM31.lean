/-
  Contract of the core's last.
-/
import Derived.Test.YtkdaphkpllgmbaaGreatM29
import Derived.Test.YtkdaphkpllgmbaaGreatM30
import Derived.Deep.RegionWith
import Derived.Deep.CutBlock
import Derived.StillTailTactics
import Derived.Deep.QuietTactic
import Derived.BigQuiet
namespace Go.Proofs.YtkdaphkpllgmbaaGreat
open Go.RowKit Sp
set_option linter.unusedVariables false
set_option linter.unusedSimpArgs false
theorem entry_2 {w : World} {g : Nat} {t : TypeId} {a b c : Value} (h : Blk w g t #[a, b, c]) : w.cell? ⟨g, 2, none⟩ = some c := h.cell 2
theorem u8_ne0 (x : UInt8) : (((x.toNat : Nat) : Int) != 0) = (x != 0) := by
  rw [Bool.eq_iff_iff, bne_iff_ne, bne_iff_ne]
  constructor
  · intro h e
    exact h (by rw [e]; rfl)
  · intro h e
    exact h (UInt8.toNat_inj.1 (by simpa using e))
theorem post64 (b : UInt8) : (Go.bits .and .u8 (b.toNat : Int) 64 != 0) = (b &&& 64 != 0) := by
  rw [show Go.bits .and .u8 (b.toNat : Int) 64 = ((andB b 64).toNat : Int) from and8 b 64]
  exact u8_ne0 _
theorem Blk.drew_ {w : World} {g : Nat} {t : TypeId} {cs : Array Value} (h : Blk w g t cs) : Blk w.drew g t cs := h
theorem Blk.drewN_ {w : World} {g : Nat} {t : TypeId} {cs : Array Value} (h : Blk w g t cs) (n : Nat) : Blk (w.drewN n) g t cs := h
theorem Blk.set_far {w : World} {g p i : Nat} {t : TypeId} {cs : Array Value} (hp : p ≠ g) (h : Blk w g t cs) (u : Value) : Blk (w.setCell ⟨p, i, none⟩ u) g t cs := h.far (p := ⟨p, i, none⟩) (Ne.symm hp) u
set_option maxRecDepth 100000 in
set_option maxHeartbeats 60000000 in
theorem last_t {p : Nat} {s : Core}  (w : World) (hC : CoreAt p s w) :
    Calls Tryz.prog 150 #[.pointer (some ⟨p, 0, none⟩)] w fun e w' => e = .returned (.tuple #[]) ∧ CoreAt p (s.last) w' ∧ w.grownBy w' (some p) := by
  have hCa := hC.alloc (.cells #[.int .i64 s.e.op, .int .i64 s.e.mode, .int .i64 s.e.reg] 121)
  have hga := grown_alloc w (World.grownBy.refl w (some p)) (.cells #[.int .i64 s.e.op, .int .i64 s.e.mode, .int .i64 s.e.reg] 121)
  have hBa := Blk.newAt w 121 #[.int .i64 s.e.op, .int .i64 s.e.mode, .int .i64 s.e.reg] w.heap.size (by simp)
  have hltw := hC.lt
  have hpb : p ≠ w.heap.size := by omega
  obtain ⟨ring, qa, lA, lc, hI⟩ := id hC; have F := core_facts hI
  clear hI hC
  go_enter Tryz.func150, Tryz.ntmps150
  go_upto_block 0 with fail
  clear F hltw
  generalize w.alloc (.cells #[.int .i64 s.e.op, .int .i64 s.e.mode, .int .i64 s.e.reg] 121) = w0 at *
  have hC0 := Lib.hid hCa
  have hg0 := Lib.hid hga
  have hBh := Lib.hid hBa
  have hlt := hCa.lt
  have hltb := hBa.lt
  have z0 := hBa.cell 0
  have z1 := hBa.cell 1
  have z2 := hBa.cell 2
  simp only [List.getElem?_toArray, List.getElem?_cons_zero, List.getElem?_cons_succ] at z0 z1 z2
  obtain ⟨ring0, qa0, lA0, lc0, hI0⟩ := id hCa; have F0 := core_facts hI0
  have F := F0
  clear F0 hI0 hCa hga hBa
  go_cut [2] from 1 (fun s2 wx => s2 = .pointer (some ⟨w.heap.size, 0, none⟩) ∧ CoreAt p s.last1 wx ∧ w.grownBy wx (some p) ∧ Blk wx w.heap.size 121 #[.int .i64 s.e.op, .int .i64 s.e.mode, .int .i64 s.e.reg])
  case first =>
    by_cases m0 : s.e.mode = 0
    · have hr1 : s.last1 = s.inside := by unfold Core.last1; simp [m0]
      rw [m0] at F z1 ⊢
      clear m0
      go_wp2_with fail
      refine (inside_t _ hC0.out).mono ?_
      rintro e w2 ⟨rfl, hC2, hgB⟩
      have hB2 := hBh.out.grown hgB (fun e => by injection e with e; exact hpb e.symm)
      have hg2 := grown_then hg0.out hgB
      go_wp2_with fail
      go_meet
      case rel =>
        rw [hr1]
        exact ⟨rfl, hC2, hg2, hB2⟩
    by_cases m1 : s.e.mode = 1
    · have hr1 : s.last1 = s.immediate := by unfold Core.last1; simp [m1]
      rw [m1] at F z1 ⊢
      clear m0 m1
      go_wp2_with fail
      refine (immediate_t _ hC0.out).mono ?_
      rintro e w2 ⟨rfl, hC2, hgB⟩
      have hB2 := hBh.out.grown hgB (fun e => by injection e with e; exact hpb e.symm)
      have hg2 := grown_then hg0.out hgB
      go_wp2_with fail
      go_meet
      case rel =>
        rw [hr1]
        exact ⟨rfl, hC2, hg2, hB2⟩
    by_cases m2 : s.e.mode = 2
    · have hr1 : s.last1 = s.sixteen s.value := by unfold Core.last1; simp [m2]
      rw [m2] at F z1 ⊢
      clear m0 m1 m2
      go_wp2_with fail
      refine (sixteen_t s.value _ hC0.out).mono ?_
      rintro e w2 ⟨rfl, hC2, hgB⟩
      have hB2 := hBh.out.grown hgB (fun e => by injection e with e; exact hpb e.symm)
      have hg2 := grown_then hg0.out hgB
      go_wp2_with fail
      go_meet
      case rel =>
        rw [hr1]
        exact ⟨rfl, hC2, hg2, hB2⟩
    by_cases m6 : s.e.mode = 6
    · by_cases o34 : s.e.op = 34
      · have hmir : s.last1 = (if holds s.e.reg s.r.cc = true then { s with r := { s.r with pc := s.ea } } else s) := by unfold Core.last1; simp [m6, o34]
        rw [m6] at F z1 ⊢
        have b34 : (s.e.op != 34) = false := by rw [o34]; rfl
        skip
        clear m0 m1 m2 m6 o34
        have HH := Lib.hid (fun W => holds_t s.e.reg s.r.cc W)
        obtain ⟨t, ht⟩ : ∃ t, holds s.e.reg s.r.cc = t := ⟨_, rfl⟩
        rw [ht] at HH hmir
        clear ht
        go_wp2
        go_still_tail 17, (by kernel_rfl)
        change wpList _ _ _ _ _ w0.drew
        have hC5 := hC0.out.drew
        have hB5 := hBh.out.drew_
        have hg5 := grown_drew w hg0.out
        generalize w0.drew = w5 at *
        go_wp2_with fail
        refine (HH.out _).mono ?_
        rintro e wE ⟨rfl, hbE⟩
        have hCd := Lib.hid (CoreAt.below hC5 hbE)
        have hBd := Lib.hid (hB5.below hbE hB5.lt)
        have hgd := grown_then hg5 (grown_of_below hbE (some p))
        clear hC5 hB5 hg5 hbE
        cases t
        · have hr1 : s.last1 = s := by rw [hmir]; rfl
          clear hmir
          go_wp2
          go_meet
          case rel =>
            rw [hr1]
            refine ⟨rfl, CoreAt.of ?_, ?_, ?_⟩
            · apply Exists.intro
              refine ⟨?_, ?_⟩
              · (repeat (with_reducible first | exact hCd.out | apply CoreAt.drew | apply CoreAt.drewN | apply CoreAt.alloc | apply CoreAt.set_a | apply CoreAt.set_b | apply CoreAt.set_dp | apply CoreAt.set_cc | apply CoreAt.set_x | apply CoreAt.set_y | apply CoreAt.set_u | apply CoreAt.set_s | apply CoreAt.set_pc | apply CoreAt.set_kind | apply CoreAt.set_page | apply CoreAt.set_op | apply CoreAt.set_mode | apply CoreAt.set_reg | apply CoreAt.set_post | apply CoreAt.set_args | apply CoreAt.set_value | apply CoreAt.set_ea | apply CoreAt.set_word | apply CoreAt.set_ptr | apply CoreAt.set_stack | apply CoreAt.set_pushed | apply CoreAt.set_then_ | apply CoreAt.set_vector | apply CoreAt.set_whole | apply CoreAt.set_loads))
              · rfl
            · (repeat (with_reducible first | exact World.grownBy.refl _ _ | assumption | apply grown_drew | apply grown_drewN | apply grown_alloc | apply grown_set))
            · (repeat (with_reducible first | exact hBd.out | apply Blk.drew_ | apply Blk.set_far hpb))
        · have hr1 : s.last1 = { s with r := { s.r with pc := s.ea } } := by rw [hmir]; rfl
          clear hmir F
          obtain ⟨ring9, qa9, lA9, lc9, hI9⟩ := id hCd.out; have F9 := core_facts hI9
          have hlt9 := hCd.out.lt
          clear hI9
          go_wp2
          go_meet
          case rel =>
            rw [hr1]
            refine ⟨rfl, CoreAt.of ?_, ?_, ?_⟩
            · apply Exists.intro
              refine ⟨?_, ?_⟩
              · (repeat (with_reducible first | exact hCd.out | apply CoreAt.drew | apply CoreAt.drewN | apply CoreAt.alloc | apply CoreAt.set_a | apply CoreAt.set_b | apply CoreAt.set_dp | apply CoreAt.set_cc | apply CoreAt.set_x | apply CoreAt.set_y | apply CoreAt.set_u | apply CoreAt.set_s | apply CoreAt.set_pc | apply CoreAt.set_kind | apply CoreAt.set_page | apply CoreAt.set_op | apply CoreAt.set_mode | apply CoreAt.set_reg | apply CoreAt.set_post | apply CoreAt.set_args | apply CoreAt.set_value | apply CoreAt.set_ea | apply CoreAt.set_word | apply CoreAt.set_ptr | apply CoreAt.set_stack | apply CoreAt.set_pushed | apply CoreAt.set_then_ | apply CoreAt.set_vector | apply CoreAt.set_whole | apply CoreAt.set_loads))
              · rfl
            · (repeat (with_reducible first | exact World.grownBy.refl _ _ | assumption | apply grown_drew | apply grown_drewN | apply grown_alloc | apply grown_set))
            · (repeat (with_reducible first | exact hBd.out | apply Blk.drew_ | apply Blk.set_far hpb))
      by_cases o35 : s.e.op = 35
      · have hmir : s.last1 = (if holds s.e.reg s.r.cc = true then { s with r := { s.r with pc := s.ea } } else s) := by unfold Core.last1; simp [m6, o35]
        rw [m6] at F z1 ⊢
        have b34 : (s.e.op != 34) = true := bne_iff_ne.mpr o34
        have b35 : (s.e.op != 35) = false := by rw [o35]; rfl
        clear m0 m1 m2 m6 o34 o35
        have HH := Lib.hid (fun W => holds_t s.e.reg s.r.cc W)
        obtain ⟨t, ht⟩ : ∃ t, holds s.e.reg s.r.cc = t := ⟨_, rfl⟩
        rw [ht] at HH hmir
        clear ht
        go_wp2
        go_still_tail 17, (by kernel_rfl)
        change wpList _ _ _ _ _ w0.drew
        have hC5 := hC0.out.drew
        have hB5 := hBh.out.drew_
        have hg5 := grown_drew w hg0.out
        generalize w0.drew = w5 at *
        go_wp2_with fail
        refine (HH.out _).mono ?_
        rintro e wE ⟨rfl, hbE⟩
        have hCd := Lib.hid (CoreAt.below hC5 hbE)
        have hBd := Lib.hid (hB5.below hbE hB5.lt)
        have hgd := grown_then hg5 (grown_of_below hbE (some p))
        clear hC5 hB5 hg5 hbE
        cases t
        · have hr1 : s.last1 = s := by rw [hmir]; rfl
          clear hmir
          go_wp2
          go_meet
          case rel =>
            rw [hr1]
            refine ⟨rfl, CoreAt.of ?_, ?_, ?_⟩
            · apply Exists.intro
              refine ⟨?_, ?_⟩
              · (repeat (with_reducible first | exact hCd.out | apply CoreAt.drew | apply CoreAt.drewN | apply CoreAt.alloc | apply CoreAt.set_a | apply CoreAt.set_b | apply CoreAt.set_dp | apply CoreAt.set_cc | apply CoreAt.set_x | apply CoreAt.set_y | apply CoreAt.set_u | apply CoreAt.set_s | apply CoreAt.set_pc | apply CoreAt.set_kind | apply CoreAt.set_page | apply CoreAt.set_op | apply CoreAt.set_mode | apply CoreAt.set_reg | apply CoreAt.set_post | apply CoreAt.set_args | apply CoreAt.set_value | apply CoreAt.set_ea | apply CoreAt.set_word | apply CoreAt.set_ptr | apply CoreAt.set_stack | apply CoreAt.set_pushed | apply CoreAt.set_then_ | apply CoreAt.set_vector | apply CoreAt.set_whole | apply CoreAt.set_loads))
              · rfl
            · (repeat (with_reducible first | exact World.grownBy.refl _ _ | assumption | apply grown_drew | apply grown_drewN | apply grown_alloc | apply grown_set))
            · (repeat (with_reducible first | exact hBd.out | apply Blk.drew_ | apply Blk.set_far hpb))
        · have hr1 : s.last1 = { s with r := { s.r with pc := s.ea } } := by rw [hmir]; rfl
          clear hmir F
          obtain ⟨ring9, qa9, lA9, lc9, hI9⟩ := id hCd.out; have F9 := core_facts hI9
          have hlt9 := hCd.out.lt
          clear hI9
          go_wp2
          go_meet
          case rel =>
            rw [hr1]
            refine ⟨rfl, CoreAt.of ?_, ?_, ?_⟩
            · apply Exists.intro
              refine ⟨?_, ?_⟩
              · (repeat (with_reducible first | exact hCd.out | apply CoreAt.drew | apply CoreAt.drewN | apply CoreAt.alloc | apply CoreAt.set_a | apply CoreAt.set_b | apply CoreAt.set_dp | apply CoreAt.set_cc | apply CoreAt.set_x | apply CoreAt.set_y | apply CoreAt.set_u | apply CoreAt.set_s | apply CoreAt.set_pc | apply CoreAt.set_kind | apply CoreAt.set_page | apply CoreAt.set_op | apply CoreAt.set_mode | apply CoreAt.set_reg | apply CoreAt.set_post | apply CoreAt.set_args | apply CoreAt.set_value | apply CoreAt.set_ea | apply CoreAt.set_word | apply CoreAt.set_ptr | apply CoreAt.set_stack | apply CoreAt.set_pushed | apply CoreAt.set_then_ | apply CoreAt.set_vector | apply CoreAt.set_whole | apply CoreAt.set_loads))
              · rfl
            · (repeat (with_reducible first | exact World.grownBy.refl _ _ | assumption | apply grown_drew | apply grown_drewN | apply grown_alloc | apply grown_set))
            · (repeat (with_reducible first | exact hBd.out | apply Blk.drew_ | apply Blk.set_far hpb))
      · have hop : s.e.op ≠ 34 ∧ s.e.op ≠ 35 := ⟨o34, o35⟩
        have hr1 : s.last1 = { s with r := { s.r with pc := s.ea } } := by unfold Core.last1; simp [m6, o34, o35]
        have b34 : (s.e.op != 34) = true := bne_iff_ne.mpr o34
        have b35 : (s.e.op != 35) = true := bne_iff_ne.mpr o35
        rw [m6] at F z1 ⊢
        clear m0 m1 m2 m6 o34 o35 hop
        go_wp2
        go_quiet (fail)
        have hC5 := hC0.out.drewN nq
        have hB5 := Lib.hid (hBh.out.drewN_ nq)
        have hg5 := grown_drewN w hg0.out nq
        generalize w0.drewN nq = w5 at *
        have hC5h := Lib.hid hC5
        clear F z0 z1 z2
        obtain ⟨ring5, qa5, lA5, lc5, hI5⟩ := id hC5; have F5 := core_facts hI5
        have hlt5 := hC5.lt
        clear hI5 hC5
        go_wp2
        go_meet
        case rel =>
          rw [hr1]
          refine ⟨rfl, CoreAt.of ?_, ?_, ?_⟩
          · apply Exists.intro
            refine ⟨?_, ?_⟩
            · (repeat (with_reducible first | exact hC5h.out | apply CoreAt.drew | apply CoreAt.drewN | apply CoreAt.alloc | apply CoreAt.set_a | apply CoreAt.set_b | apply CoreAt.set_dp | apply CoreAt.set_cc | apply CoreAt.set_x | apply CoreAt.set_y | apply CoreAt.set_u | apply CoreAt.set_s | apply CoreAt.set_pc | apply CoreAt.set_kind | apply CoreAt.set_page | apply CoreAt.set_op | apply CoreAt.set_mode | apply CoreAt.set_reg | apply CoreAt.set_post | apply CoreAt.set_args | apply CoreAt.set_value | apply CoreAt.set_ea | apply CoreAt.set_word | apply CoreAt.set_ptr | apply CoreAt.set_stack | apply CoreAt.set_pushed | apply CoreAt.set_then_ | apply CoreAt.set_vector | apply CoreAt.set_whole | apply CoreAt.set_loads))
            · rfl
          · (repeat (with_reducible first | exact World.grownBy.refl _ _ | assumption | apply grown_drew | apply grown_drewN | apply grown_alloc | apply grown_set))
          · (repeat (with_reducible first | exact hB5.out | apply Blk.drew_ | apply Blk.set_far hpb))
    by_cases m7 : s.e.mode = 7
    · by_cases o34 : s.e.op = 34
      · have hmir : s.last1 = (if holds s.e.reg s.r.cc = true then { s with r := { s.r with pc := s.ea } } else s) := by unfold Core.last1; simp [m7, o34]
        rw [m7] at F z1 ⊢
        have b34 : (s.e.op != 34) = false := by rw [o34]; rfl
        skip
        clear m0 m1 m2 m6 m7 o34
        have HH := Lib.hid (fun W => holds_t s.e.reg s.r.cc W)
        obtain ⟨t, ht⟩ : ∃ t, holds s.e.reg s.r.cc = t := ⟨_, rfl⟩
        rw [ht] at HH hmir
        clear ht
        go_wp2
        go_still_tail 17, (by kernel_rfl)
        change wpList _ _ _ _ _ w0.drew
        have hC5 := hC0.out.drew
        have hB5 := hBh.out.drew_
        have hg5 := grown_drew w hg0.out
        generalize w0.drew = w5 at *
        go_wp2_with fail
        refine (HH.out _).mono ?_
        rintro e wE ⟨rfl, hbE⟩
        have hCd := Lib.hid (CoreAt.below hC5 hbE)
        have hBd := Lib.hid (hB5.below hbE hB5.lt)
        have hgd := grown_then hg5 (grown_of_below hbE (some p))
        clear hC5 hB5 hg5 hbE
        cases t
        · have hr1 : s.last1 = s := by rw [hmir]; rfl
          clear hmir
          go_wp2
          go_meet
          case rel =>
            rw [hr1]
            refine ⟨rfl, CoreAt.of ?_, ?_, ?_⟩
            · apply Exists.intro
              refine ⟨?_, ?_⟩
              · (repeat (with_reducible first | exact hCd.out | apply CoreAt.drew | apply CoreAt.drewN | apply CoreAt.alloc | apply CoreAt.set_a | apply CoreAt.set_b | apply CoreAt.set_dp | apply CoreAt.set_cc | apply CoreAt.set_x | apply CoreAt.set_y | apply CoreAt.set_u | apply CoreAt.set_s | apply CoreAt.set_pc | apply CoreAt.set_kind | apply CoreAt.set_page | apply CoreAt.set_op | apply CoreAt.set_mode | apply CoreAt.set_reg | apply CoreAt.set_post | apply CoreAt.set_args | apply CoreAt.set_value | apply CoreAt.set_ea | apply CoreAt.set_word | apply CoreAt.set_ptr | apply CoreAt.set_stack | apply CoreAt.set_pushed | apply CoreAt.set_then_ | apply CoreAt.set_vector | apply CoreAt.set_whole | apply CoreAt.set_loads))
              · rfl
            · (repeat (with_reducible first | exact World.grownBy.refl _ _ | assumption | apply grown_drew | apply grown_drewN | apply grown_alloc | apply grown_set))
            · (repeat (with_reducible first | exact hBd.out | apply Blk.drew_ | apply Blk.set_far hpb))
        · have hr1 : s.last1 = { s with r := { s.r with pc := s.ea } } := by rw [hmir]; rfl
          clear hmir F
          obtain ⟨ring9, qa9, lA9, lc9, hI9⟩ := id hCd.out; have F9 := core_facts hI9
          have hlt9 := hCd.out.lt
          clear hI9
          go_wp2
          go_meet
          case rel =>
            rw [hr1]
            refine ⟨rfl, CoreAt.of ?_, ?_, ?_⟩
            · apply Exists.intro
              refine ⟨?_, ?_⟩
              · (repeat (with_reducible first | exact hCd.out | apply CoreAt.drew | apply CoreAt.drewN | apply CoreAt.alloc | apply CoreAt.set_a | apply CoreAt.set_b | apply CoreAt.set_dp | apply CoreAt.set_cc | apply CoreAt.set_x | apply CoreAt.set_y | apply CoreAt.set_u | apply CoreAt.set_s | apply CoreAt.set_pc | apply CoreAt.set_kind | apply CoreAt.set_page | apply CoreAt.set_op | apply CoreAt.set_mode | apply CoreAt.set_reg | apply CoreAt.set_post | apply CoreAt.set_args | apply CoreAt.set_value | apply CoreAt.set_ea | apply CoreAt.set_word | apply CoreAt.set_ptr | apply CoreAt.set_stack | apply CoreAt.set_pushed | apply CoreAt.set_then_ | apply CoreAt.set_vector | apply CoreAt.set_whole | apply CoreAt.set_loads))
              · rfl
            · (repeat (with_reducible first | exact World.grownBy.refl _ _ | assumption | apply grown_drew | apply grown_drewN | apply grown_alloc | apply grown_set))
            · (repeat (with_reducible first | exact hBd.out | apply Blk.drew_ | apply Blk.set_far hpb))
      by_cases o35 : s.e.op = 35
      · have hmir : s.last1 = (if holds s.e.reg s.r.cc = true then { s with r := { s.r with pc := s.ea } } else s) := by unfold Core.last1; simp [m7, o35]
        rw [m7] at F z1 ⊢
        have b34 : (s.e.op != 34) = true := bne_iff_ne.mpr o34
        have b35 : (s.e.op != 35) = false := by rw [o35]; rfl
        clear m0 m1 m2 m6 m7 o34 o35
        have HH := Lib.hid (fun W => holds_t s.e.reg s.r.cc W)
        obtain ⟨t, ht⟩ : ∃ t, holds s.e.reg s.r.cc = t := ⟨_, rfl⟩
        rw [ht] at HH hmir
        clear ht
        go_wp2
        go_still_tail 17, (by kernel_rfl)
        change wpList _ _ _ _ _ w0.drew
        have hC5 := hC0.out.drew
        have hB5 := hBh.out.drew_
        have hg5 := grown_drew w hg0.out
        generalize w0.drew = w5 at *
        go_wp2_with fail
        refine (HH.out _).mono ?_
        rintro e wE ⟨rfl, hbE⟩
        have hCd := Lib.hid (CoreAt.below hC5 hbE)
        have hBd := Lib.hid (hB5.below hbE hB5.lt)
        have hgd := grown_then hg5 (grown_of_below hbE (some p))
        clear hC5 hB5 hg5 hbE
        cases t
        · have hr1 : s.last1 = s := by rw [hmir]; rfl
          clear hmir
          go_wp2
          go_meet
          case rel =>
            rw [hr1]
            refine ⟨rfl, CoreAt.of ?_, ?_, ?_⟩
            · apply Exists.intro
              refine ⟨?_, ?_⟩
              · (repeat (with_reducible first | exact hCd.out | apply CoreAt.drew | apply CoreAt.drewN | apply CoreAt.alloc | apply CoreAt.set_a | apply CoreAt.set_b | apply CoreAt.set_dp | apply CoreAt.set_cc | apply CoreAt.set_x | apply CoreAt.set_y | apply CoreAt.set_u | apply CoreAt.set_s | apply CoreAt.set_pc | apply CoreAt.set_kind | apply CoreAt.set_page | apply CoreAt.set_op | apply CoreAt.set_mode | apply CoreAt.set_reg | apply CoreAt.set_post | apply CoreAt.set_args | apply CoreAt.set_value | apply CoreAt.set_ea | apply CoreAt.set_word | apply CoreAt.set_ptr | apply CoreAt.set_stack | apply CoreAt.set_pushed | apply CoreAt.set_then_ | apply CoreAt.set_vector | apply CoreAt.set_whole | apply CoreAt.set_loads))
              · rfl
            · (repeat (with_reducible first | exact World.grownBy.refl _ _ | assumption | apply grown_drew | apply grown_drewN | apply grown_alloc | apply grown_set))
            · (repeat (with_reducible first | exact hBd.out | apply Blk.drew_ | apply Blk.set_far hpb))
        · have hr1 : s.last1 = { s with r := { s.r with pc := s.ea } } := by rw [hmir]; rfl
          clear hmir F
          obtain ⟨ring9, qa9, lA9, lc9, hI9⟩ := id hCd.out; have F9 := core_facts hI9
          have hlt9 := hCd.out.lt
          clear hI9
          go_wp2
          go_meet
          case rel =>
            rw [hr1]
            refine ⟨rfl, CoreAt.of ?_, ?_, ?_⟩
            · apply Exists.intro
              refine ⟨?_, ?_⟩
              · (repeat (with_reducible first | exact hCd.out | apply CoreAt.drew | apply CoreAt.drewN | apply CoreAt.alloc | apply CoreAt.set_a | apply CoreAt.set_b | apply CoreAt.set_dp | apply CoreAt.set_cc | apply CoreAt.set_x | apply CoreAt.set_y | apply CoreAt.set_u | apply CoreAt.set_s | apply CoreAt.set_pc | apply CoreAt.set_kind | apply CoreAt.set_page | apply CoreAt.set_op | apply CoreAt.set_mode | apply CoreAt.set_reg | apply CoreAt.set_post | apply CoreAt.set_args | apply CoreAt.set_value | apply CoreAt.set_ea | apply CoreAt.set_word | apply CoreAt.set_ptr | apply CoreAt.set_stack | apply CoreAt.set_pushed | apply CoreAt.set_then_ | apply CoreAt.set_vector | apply CoreAt.set_whole | apply CoreAt.set_loads))
              · rfl
            · (repeat (with_reducible first | exact World.grownBy.refl _ _ | assumption | apply grown_drew | apply grown_drewN | apply grown_alloc | apply grown_set))
            · (repeat (with_reducible first | exact hBd.out | apply Blk.drew_ | apply Blk.set_far hpb))
      · have hop : s.e.op ≠ 34 ∧ s.e.op ≠ 35 := ⟨o34, o35⟩
        have hr1 : s.last1 = { s with r := { s.r with pc := s.ea } } := by unfold Core.last1; simp [m7, o34, o35]
        have b34 : (s.e.op != 34) = true := bne_iff_ne.mpr o34
        have b35 : (s.e.op != 35) = true := bne_iff_ne.mpr o35
        rw [m7] at F z1 ⊢
        clear m0 m1 m2 m6 m7 o34 o35 hop
        go_wp2
        go_quiet (fail)
        have hC5 := hC0.out.drewN nq
        have hB5 := Lib.hid (hBh.out.drewN_ nq)
        have hg5 := grown_drewN w hg0.out nq
        generalize w0.drewN nq = w5 at *
        have hC5h := Lib.hid hC5
        clear F z0 z1 z2
        obtain ⟨ring5, qa5, lA5, lc5, hI5⟩ := id hC5; have F5 := core_facts hI5
        have hlt5 := hC5.lt
        clear hI5 hC5
        go_wp2
        go_meet
        case rel =>
          rw [hr1]
          refine ⟨rfl, CoreAt.of ?_, ?_, ?_⟩
          · apply Exists.intro
            refine ⟨?_, ?_⟩
            · (repeat (with_reducible first | exact hC5h.out | apply CoreAt.drew | apply CoreAt.drewN | apply CoreAt.alloc | apply CoreAt.set_a | apply CoreAt.set_b | apply CoreAt.set_dp | apply CoreAt.set_cc | apply CoreAt.set_x | apply CoreAt.set_y | apply CoreAt.set_u | apply CoreAt.set_s | apply CoreAt.set_pc | apply CoreAt.set_kind | apply CoreAt.set_page | apply CoreAt.set_op | apply CoreAt.set_mode | apply CoreAt.set_reg | apply CoreAt.set_post | apply CoreAt.set_args | apply CoreAt.set_value | apply CoreAt.set_ea | apply CoreAt.set_word | apply CoreAt.set_ptr | apply CoreAt.set_stack | apply CoreAt.set_pushed | apply CoreAt.set_then_ | apply CoreAt.set_vector | apply CoreAt.set_whole | apply CoreAt.set_loads))
            · rfl
          · (repeat (with_reducible first | exact World.grownBy.refl _ _ | assumption | apply grown_drew | apply grown_drewN | apply grown_alloc | apply grown_set))
          · (repeat (with_reducible first | exact hB5.out | apply Blk.drew_ | apply Blk.set_far hpb))
    by_cases m8 : s.e.mode = 8
    · by_cases o47 : s.e.op = 47
      · have hr1 : s.last1 = { s with r := s.r.tfr s.post, loads := decide (loN s.post = 4) } := by unfold Core.last1; simp [m8, o47]
        rw [o47] at z0 ⊢
        rw [m8] at F z1 ⊢
        clear m0 m1 m2 m6 m7 m8 o47
        obtain ⟨v, hv⟩ : ∃ v : Bool, decide (loN s.post = 4) = v := ⟨_, rfl⟩
        rw [hv] at hr1
        have HV := Lib.hid hv
        clear hv
        go_wp2
        go_region_held3 (fun W => W.cell? ⟨p, 64, none⟩ = some (.int .u8 (s.post.toNat : Int))) (first | (go_keep; done) | assumption | (simp [*, set_far, World.cell?_alloc_some, World.cell?_setCell_far]; done)) (first | (go_at_call 179; refine (Tfr_core s.post _ (CoreAt.below hC0.out (by repeat (first | exact Below.refl _ _ | apply below_alloc | apply Below.drew | apply below_drewN | (refine below_then ?_ (by assumption)))))).mono ?_; rw [HV.out]; rintro e wS ⟨rfl, hCS, hgS⟩; have kS_post := hCS.c_post; obtain ⟨ringS, qaS, lAS, lcS, hIS⟩ := id hCS; have FS := core_facts hIS))
        have hgb := hgS
        have hBS := Lib.hid (hBh.out.drew_.grown hgS (fun e => by injection e with e; exact hpb e.symm))
        have hgx := grown_then (grown_drew w hg0.out) hgS
        have hCSh := Lib.hid hCS
        have hltS := hCS.lt
        clear F
        obtain ⟨ring9, qa9, lA9, lc9, hI9⟩ := id hCS; have F9 := core_facts hI9
        clear hI9 hCS hgb hgS
        go_wp2_with fail
        go_meet
        case rel =>
          rw [hr1]
          refine ⟨rfl, CoreAt.of ?_, ?_, ?_⟩
          · apply Exists.intro
            refine ⟨?_, ?_⟩
            · (repeat (with_reducible first | exact hCSh.out | apply CoreAt.drew | apply CoreAt.drewN | apply CoreAt.alloc | apply CoreAt.set_a | apply CoreAt.set_b | apply CoreAt.set_dp | apply CoreAt.set_cc | apply CoreAt.set_x | apply CoreAt.set_y | apply CoreAt.set_u | apply CoreAt.set_s | apply CoreAt.set_pc | apply CoreAt.set_kind | apply CoreAt.set_page | apply CoreAt.set_op | apply CoreAt.set_mode | apply CoreAt.set_reg | apply CoreAt.set_post | apply CoreAt.set_args | apply CoreAt.set_value | apply CoreAt.set_ea | apply CoreAt.set_word | apply CoreAt.set_ptr | apply CoreAt.set_stack | apply CoreAt.set_pushed | apply CoreAt.set_then_ | apply CoreAt.set_vector | apply CoreAt.set_whole | apply CoreAt.set_loads))
            · rfl
          · (repeat (with_reducible first | exact World.grownBy.refl _ _ | assumption | apply grown_drew | apply grown_drewN | apply grown_alloc | apply grown_set))
          · (repeat (with_reducible first | exact hBS.out | apply Blk.drew_ | apply Blk.set_far hpb))
      · have hr1 : s.last1 = { s with r := s.r.exg s.post, loads := decide (hiN s.post = 4) || decide (loN s.post = 4) } := by unfold Core.last1; simp [m8, o47]
        have b47 : (s.e.op == 47) = false := beq_eq_false_iff_ne.mpr o47
        rw [m8] at F z1 ⊢
        clear m0 m1 m2 m6 m7 m8 o47
        obtain ⟨v, hv⟩ : ∃ v : Bool, (decide (hiN s.post = 4) || decide (loN s.post = 4)) = v := ⟨_, rfl⟩
        rw [hv] at hr1
        have HV := Lib.hid hv
        clear hv
        go_wp2
        go_region_held3 (fun W => W.cell? ⟨p, 64, none⟩ = some (.int .u8 (s.post.toNat : Int))) (first | (go_keep; done) | assumption | (simp [*, set_far, World.cell?_alloc_some, World.cell?_setCell_far]; done)) (first | (go_at_call 180; refine (Exg_core s.post _ (CoreAt.below hC0.out (by repeat (first | exact Below.refl _ _ | apply below_alloc | apply Below.drew | apply below_drewN | (refine below_then ?_ (by assumption)))))).mono ?_; rw [HV.out]; rintro e wS ⟨rfl, hCS, hgS⟩; have kS_post := hCS.c_post; obtain ⟨ringS, qaS, lAS, lcS, hIS⟩ := id hCS; have FS := core_facts hIS))
        have hgb := hgS
        have hBS := Lib.hid (hBh.out.drew_.grown hgS (fun e => by injection e with e; exact hpb e.symm))
        have hgx := grown_then (grown_drew w hg0.out) hgS
        have hCSh := Lib.hid hCS
        have hltS := hCS.lt
        clear F
        obtain ⟨ring9, qa9, lA9, lc9, hI9⟩ := id hCS; have F9 := core_facts hI9
        clear hI9 hCS hgb hgS
        go_wp2_with fail
        go_meet
        case rel =>
          rw [hr1]
          refine ⟨rfl, CoreAt.of ?_, ?_, ?_⟩
          · apply Exists.intro
            refine ⟨?_, ?_⟩
            · (repeat (with_reducible first | exact hCSh.out | apply CoreAt.drew | apply CoreAt.drewN | apply CoreAt.alloc | apply CoreAt.set_a | apply CoreAt.set_b | apply CoreAt.set_dp | apply CoreAt.set_cc | apply CoreAt.set_x | apply CoreAt.set_y | apply CoreAt.set_u | apply CoreAt.set_s | apply CoreAt.set_pc | apply CoreAt.set_kind | apply CoreAt.set_page | apply CoreAt.set_op | apply CoreAt.set_mode | apply CoreAt.set_reg | apply CoreAt.set_post | apply CoreAt.set_args | apply CoreAt.set_value | apply CoreAt.set_ea | apply CoreAt.set_word | apply CoreAt.set_ptr | apply CoreAt.set_stack | apply CoreAt.set_pushed | apply CoreAt.set_then_ | apply CoreAt.set_vector | apply CoreAt.set_whole | apply CoreAt.set_loads))
            · rfl
          · (repeat (with_reducible first | exact World.grownBy.refl _ _ | assumption | apply grown_drew | apply grown_drewN | apply grown_alloc | apply grown_set))
          · (repeat (with_reducible first | exact hBS.out | apply Blk.drew_ | apply Blk.set_far hpb))
    by_cases m9 : s.e.mode = 9
    · by_cases o31 : s.e.op = 31
      · by_cases r3 : s.e.reg = 3
        · have hr1 : s.last1 = { s with loads := (s.post &&& 64 != 0) } := by unfold Core.last1; simp [m9, o31, r3]
          rw [o31] at z0 ⊢
          rw [r3] at z2 ⊢
          rw [m9] at F z1 ⊢
          clear m0 m1 m2 m6 m7 m8 m9 o31 r3
          have e64 : (Go.bits .and .u8 (s.post.toNat : Int) 64 != 0) = (s.post &&& 64 != 0) := post64 s.post
          go_wp2
          go_meet
          case rel =>
            rw [hr1]
            have hgx := hg0.out
            refine ⟨rfl, CoreAt.of ?_, ?_, ?_⟩
            · apply Exists.intro
              refine ⟨?_, ?_⟩
              · (repeat (with_reducible first | exact hC0.out | apply CoreAt.drew | apply CoreAt.drewN | apply CoreAt.alloc | apply CoreAt.set_a | apply CoreAt.set_b | apply CoreAt.set_dp | apply CoreAt.set_cc | apply CoreAt.set_x | apply CoreAt.set_y | apply CoreAt.set_u | apply CoreAt.set_s | apply CoreAt.set_pc | apply CoreAt.set_kind | apply CoreAt.set_page | apply CoreAt.set_op | apply CoreAt.set_mode | apply CoreAt.set_reg | apply CoreAt.set_post | apply CoreAt.set_args | apply CoreAt.set_value | apply CoreAt.set_ea | apply CoreAt.set_word | apply CoreAt.set_ptr | apply CoreAt.set_stack | apply CoreAt.set_pushed | apply CoreAt.set_then_ | apply CoreAt.set_vector | apply CoreAt.set_whole | apply CoreAt.set_loads))
              · rfl
            · (repeat (with_reducible first | exact World.grownBy.refl _ _ | assumption | apply grown_drew | apply grown_drewN | apply grown_alloc | apply grown_set))
            · (repeat (with_reducible first | exact hBh.out | apply Blk.drew_ | apply Blk.set_far hpb))
        · have hr1 : s.last1 = { s with loads := false } := by unfold Core.last1; simp [m9, o31, r3]
          rw [o31] at z0 ⊢
          have br3 : (s.e.reg == 3) = false := beq_eq_false_iff_ne.mpr r3
          rw [m9] at F z1 ⊢
          clear m0 m1 m2 m6 m7 m8 m9 o31 r3
          go_wp2
          go_meet
          case rel =>
            rw [hr1]
            have hgx := hg0.out
            refine ⟨rfl, CoreAt.of ?_, ?_, ?_⟩
            · apply Exists.intro
              refine ⟨?_, ?_⟩
              · (repeat (with_reducible first | exact hC0.out | apply CoreAt.drew | apply CoreAt.drewN | apply CoreAt.alloc | apply CoreAt.set_a | apply CoreAt.set_b | apply CoreAt.set_dp | apply CoreAt.set_cc | apply CoreAt.set_x | apply CoreAt.set_y | apply CoreAt.set_u | apply CoreAt.set_s | apply CoreAt.set_pc | apply CoreAt.set_kind | apply CoreAt.set_page | apply CoreAt.set_op | apply CoreAt.set_mode | apply CoreAt.set_reg | apply CoreAt.set_post | apply CoreAt.set_args | apply CoreAt.set_value | apply CoreAt.set_ea | apply CoreAt.set_word | apply CoreAt.set_ptr | apply CoreAt.set_stack | apply CoreAt.set_pushed | apply CoreAt.set_then_ | apply CoreAt.set_vector | apply CoreAt.set_whole | apply CoreAt.set_loads))
              · rfl
            · (repeat (with_reducible first | exact World.grownBy.refl _ _ | assumption | apply grown_drew | apply grown_drewN | apply grown_alloc | apply grown_set))
            · (repeat (with_reducible first | exact hBh.out | apply Blk.drew_ | apply Blk.set_far hpb))
      · have hr1 : s.last1 = { s with loads := false } := by unfold Core.last1; simp [m9, o31]
        have b31 : (s.e.op == 31) = false := beq_eq_false_iff_ne.mpr o31
        rw [m9] at F z1 ⊢
        clear m0 m1 m2 m6 m7 m8 m9 o31 
        go_wp2
        go_meet
        case rel =>
          rw [hr1]
          have hgx := hg0.out
          refine ⟨rfl, CoreAt.of ?_, ?_, ?_⟩
          · apply Exists.intro
            refine ⟨?_, ?_⟩
            · (repeat (with_reducible first | exact hC0.out | apply CoreAt.drew | apply CoreAt.drewN | apply CoreAt.alloc | apply CoreAt.set_a | apply CoreAt.set_b | apply CoreAt.set_dp | apply CoreAt.set_cc | apply CoreAt.set_x | apply CoreAt.set_y | apply CoreAt.set_u | apply CoreAt.set_s | apply CoreAt.set_pc | apply CoreAt.set_kind | apply CoreAt.set_page | apply CoreAt.set_op | apply CoreAt.set_mode | apply CoreAt.set_reg | apply CoreAt.set_post | apply CoreAt.set_args | apply CoreAt.set_value | apply CoreAt.set_ea | apply CoreAt.set_word | apply CoreAt.set_ptr | apply CoreAt.set_stack | apply CoreAt.set_pushed | apply CoreAt.set_then_ | apply CoreAt.set_vector | apply CoreAt.set_whole | apply CoreAt.set_loads))
            · rfl
          · (repeat (with_reducible first | exact World.grownBy.refl _ _ | assumption | apply grown_drew | apply grown_drewN | apply grown_alloc | apply grown_set))
          · (repeat (with_reducible first | exact hBh.out | apply Blk.drew_ | apply Blk.set_far hpb))
    · have hr1 : s.last1 = s := by unfold Core.last1; simp [m0, m1, m2, m6, m7, m8, m9]
      have b0 : (s.e.mode == 0) = false := beq_eq_false_iff_ne.mpr m0
      have b1 : (s.e.mode == 1) = false := beq_eq_false_iff_ne.mpr m1
      have b2 : (s.e.mode == 2) = false := beq_eq_false_iff_ne.mpr m2
      have b6 : (s.e.mode == 6) = false := beq_eq_false_iff_ne.mpr m6
      have b7 : (s.e.mode == 7) = false := beq_eq_false_iff_ne.mpr m7
      have b8 : (s.e.mode == 8) = false := beq_eq_false_iff_ne.mpr m8
      have b9 : (s.e.mode == 9) = false := beq_eq_false_iff_ne.mpr m9
      clear m0 m1 m2 m6 m7 m8 m9
      go_wp2
      go_meet
      case rel =>
        rw [hr1]
        have hgx := hg0.out
        refine ⟨rfl, CoreAt.of ?_, ?_, ?_⟩
        · apply Exists.intro
          refine ⟨?_, ?_⟩
          · (repeat (with_reducible first | exact hC0.out | apply CoreAt.drew | apply CoreAt.drewN | apply CoreAt.alloc | apply CoreAt.set_a | apply CoreAt.set_b | apply CoreAt.set_dp | apply CoreAt.set_cc | apply CoreAt.set_x | apply CoreAt.set_y | apply CoreAt.set_u | apply CoreAt.set_s | apply CoreAt.set_pc | apply CoreAt.set_kind | apply CoreAt.set_page | apply CoreAt.set_op | apply CoreAt.set_mode | apply CoreAt.set_reg | apply CoreAt.set_post | apply CoreAt.set_args | apply CoreAt.set_value | apply CoreAt.set_ea | apply CoreAt.set_word | apply CoreAt.set_ptr | apply CoreAt.set_stack | apply CoreAt.set_pushed | apply CoreAt.set_then_ | apply CoreAt.set_vector | apply CoreAt.set_whole | apply CoreAt.set_loads))
          · rfl
        · (repeat (with_reducible first | exact World.grownBy.refl _ _ | assumption | apply grown_drew | apply grown_drewN | apply grown_alloc | apply grown_set))
        · (repeat (with_reducible first | exact hBh.out | apply Blk.drew_ | apply Blk.set_far hpb))
  case rest =>
    obtain ⟨rfl, hC1, hg1, hB1⟩ := hcut
    obtain ⟨s1, hs1⟩ : ∃ s1, s.last1 = s1 := ⟨_, rfl⟩
    have hmir : s.last = s1.last2 s.e := by rw [← hs1]; rfl
    rw [hs1] at hC1
    clear hs1 z0 z1 z2 F hC0 hg0 hBh hlt hltb
    have hC1h := Lib.hid hC1
    have hg1h := Lib.hid hg1
    have hBh := Lib.hid hB1
    have hlt1 := hC1.lt
    have hltb := hB1.lt
    have z0 := hB1.cell 0
    have z1 := hB1.cell 1
    have z2 := hB1.cell 2
    simp only [List.getElem?_toArray, List.getElem?_cons_zero, List.getElem?_cons_succ] at z0 z1 z2
    obtain ⟨ring1, qa1, lA1, lc1, hI1⟩ := id hC1; have F1 := core_facts hI1
    clear hI1 hC1 hg1 hB1
    by_cases o32 : s.e.op = 32
    · have hr2 : s.last = { s1 with r := { s1.r with pc := s1.ea } } := by rw [hmir]; unfold Core.last2; simp [o32]
      rw [o32] at z0
      clear hmir o32
      go_wp2
      first | go_end0 | refine bodyPost_ret (results_none rfl _ _ _) rfl ?_
      first | rw [hr2] | skip
      have hgx := hg1h.out
      refine ⟨rfl, CoreAt.of ?_, ?_⟩
      · apply Exists.intro
        refine ⟨?_, ?_⟩
        · (repeat (with_reducible first | exact hC1h.out | apply CoreAt.drew | apply CoreAt.drewN | apply CoreAt.alloc | apply CoreAt.set_a | apply CoreAt.set_b | apply CoreAt.set_dp | apply CoreAt.set_cc | apply CoreAt.set_x | apply CoreAt.set_y | apply CoreAt.set_u | apply CoreAt.set_s | apply CoreAt.set_pc | apply CoreAt.set_kind | apply CoreAt.set_page | apply CoreAt.set_op | apply CoreAt.set_mode | apply CoreAt.set_reg | apply CoreAt.set_post | apply CoreAt.set_args | apply CoreAt.set_value | apply CoreAt.set_ea | apply CoreAt.set_word | apply CoreAt.set_ptr | apply CoreAt.set_stack | apply CoreAt.set_pushed | apply CoreAt.set_then_ | apply CoreAt.set_vector | apply CoreAt.set_whole | apply CoreAt.set_loads))
        · rfl
      · (repeat (with_reducible first | exact World.grownBy.refl _ _ | assumption | apply grown_drew | apply grown_drewN | apply grown_alloc | apply grown_set))
    by_cases o33 : s.e.op = 33
    · have hr2 : s.last = { s1 with r := { s1.r with pc := s1.ea } } := by rw [hmir]; unfold Core.last2; simp [o33]
      rw [o33] at z0
      clear hmir o32 o33
      go_wp2
      first | go_end0 | refine bodyPost_ret (results_none rfl _ _ _) rfl ?_
      first | rw [hr2] | skip
      have hgx := hg1h.out
      refine ⟨rfl, CoreAt.of ?_, ?_⟩
      · apply Exists.intro
        refine ⟨?_, ?_⟩
        · (repeat (with_reducible first | exact hC1h.out | apply CoreAt.drew | apply CoreAt.drewN | apply CoreAt.alloc | apply CoreAt.set_a | apply CoreAt.set_b | apply CoreAt.set_dp | apply CoreAt.set_cc | apply CoreAt.set_x | apply CoreAt.set_y | apply CoreAt.set_u | apply CoreAt.set_s | apply CoreAt.set_pc | apply CoreAt.set_kind | apply CoreAt.set_page | apply CoreAt.set_op | apply CoreAt.set_mode | apply CoreAt.set_reg | apply CoreAt.set_post | apply CoreAt.set_args | apply CoreAt.set_value | apply CoreAt.set_ea | apply CoreAt.set_word | apply CoreAt.set_ptr | apply CoreAt.set_stack | apply CoreAt.set_pushed | apply CoreAt.set_then_ | apply CoreAt.set_vector | apply CoreAt.set_whole | apply CoreAt.set_loads))
        · rfl
      · (repeat (with_reducible first | exact World.grownBy.refl _ _ | assumption | apply grown_drew | apply grown_drewN | apply grown_alloc | apply grown_set))
    by_cases o29 : s.e.op = 29
    · by_cases r1 : s.e.reg = 1
      · have hr2 : s.last = { s1 with r := { (s1.r.set s.e.reg s1.ea) with cc := wb (s1.ea == 0) (s1.r.set s.e.reg s1.ea).cc 4 }, loads := decide (s.e.reg = 4) } := by rw [hmir]; unfold Core.last2; simp [o29, r1]
        have b1 : (s.e.reg == 1) = true := by rw [r1]; rfl
        have b29 : (s.e.op == 29) = true := by rw [o29]; rfl
        have b32 : (s.e.op == 32) = false := beq_eq_false_iff_ne.mpr o32
        have b33 : (s.e.op == 33) = false := beq_eq_false_iff_ne.mpr o33
        clear hmir o29 o32 o33 r1
        go_wp2
        go_region_held3 (fun W => W.cell? ⟨w.heap.size, 2, none⟩ = some (.int .i64 s.e.reg) ∧ W.cell? ⟨p, 67, none⟩ = some (.int .u16 (s1.ea.toNat : Int))) (first | with_reducible exact ⟨y2, kS_ea⟩ | (go_keep; done)) (first | (go_at_call 147; refine (Set_core _ _ _ (CoreAt.below hC1h.out (by repeat (first | exact Below.refl _ _ | apply below_alloc | apply Below.drew | apply below_drewN | (refine below_then ?_ (by assumption)))))).mono ?_; rintro e wS ⟨rfl, hCS, hgS⟩; have kS_ea := hCS.c_ea; have hBS := hBh.out.drew_.grown hgS (fun e => by injection e with e; exact hpb e.symm); have y2 := entry_2 hBS))
        have hgx := Lib.hid (grown_then (grown_drew w hg1h.out) hgS)
        have hCSh := Lib.hid hCS
        have hltS := hCS.lt
        have hltb2 := hBS.lt
        clear F1 z0 z1 z2 kS_ea
        obtain ⟨ring9, qa9, lA9, lc9, hI9⟩ := id hCS; have F9 := core_facts hI9
        clear hI9 hCS hBS hgS
        have hCl := Lib.hid (hCSh.out.set_loads (s.e.reg == 4))
        have hgl := Lib.hid (grown_set w hgx.out 76 (.bool (s.e.reg == 4)))
        go_wp2
        clear F9
        obtain ⟨ring8, qa8, lA8, lc8, hI8⟩ := id hCl.out; have F8 := core_facts hI8
        have hlt8 := hCl.out.lt
        clear hI8
        go_region_with ((go_at_call 181; refine (wideLea_t _ _ _).mono ?_; rintro e wE ⟨rfl, hbE⟩; have hC4 := CoreAt.below (hCl.out.drew) hbE; obtain ⟨ring4, qa4, lA4, lc4, hI4⟩ := id hC4; have F4 := core_facts hI4))
        all_goals
          have hg4 := grown_then (grown_drew w hgl.out) (grown_of_below hbE (some p))
          have hlt4 := hC4.lt
          have hC4h := Lib.hid hC4
          clear hC4
          go_wp2
          first | go_end0 | refine bodyPost_ret (results_none rfl _ _ _) rfl ?_
          first | rw [hr2] | skip
          have hgx := hg4
          refine ⟨rfl, CoreAt.of ?_, ?_⟩
          · apply Exists.intro
            refine ⟨?_, ?_⟩
            · (repeat (with_reducible first | exact hC4h.out | apply CoreAt.drew | apply CoreAt.drewN | apply CoreAt.alloc | apply CoreAt.set_a | apply CoreAt.set_b | apply CoreAt.set_dp | apply CoreAt.set_cc | apply CoreAt.set_x | apply CoreAt.set_y | apply CoreAt.set_u | apply CoreAt.set_s | apply CoreAt.set_pc | apply CoreAt.set_kind | apply CoreAt.set_page | apply CoreAt.set_op | apply CoreAt.set_mode | apply CoreAt.set_reg | apply CoreAt.set_post | apply CoreAt.set_args | apply CoreAt.set_value | apply CoreAt.set_ea | apply CoreAt.set_word | apply CoreAt.set_ptr | apply CoreAt.set_stack | apply CoreAt.set_pushed | apply CoreAt.set_then_ | apply CoreAt.set_vector | apply CoreAt.set_whole | apply CoreAt.set_loads))
            · rfl
          · (repeat (with_reducible first | exact World.grownBy.refl _ _ | assumption | apply grown_drew | apply grown_drewN | apply grown_alloc | apply grown_set))
      by_cases r2 : s.e.reg = 2
      · have hr2 : s.last = { s1 with r := { (s1.r.set s.e.reg s1.ea) with cc := wb (s1.ea == 0) (s1.r.set s.e.reg s1.ea).cc 4 }, loads := decide (s.e.reg = 4) } := by rw [hmir]; unfold Core.last2; simp [o29, r2]
        have b1 : (s.e.reg == 1) = false := beq_eq_false_iff_ne.mpr r1
        have b2 : (s.e.reg == 2) = true := by rw [r2]; rfl
        have b29 : (s.e.op == 29) = true := by rw [o29]; rfl
        have b32 : (s.e.op == 32) = false := beq_eq_false_iff_ne.mpr o32
        have b33 : (s.e.op == 33) = false := beq_eq_false_iff_ne.mpr o33
        clear hmir o29 o32 o33 r1 r2
        go_wp2
        go_region_held3 (fun W => W.cell? ⟨w.heap.size, 2, none⟩ = some (.int .i64 s.e.reg) ∧ W.cell? ⟨p, 67, none⟩ = some (.int .u16 (s1.ea.toNat : Int))) (first | with_reducible exact ⟨y2, kS_ea⟩ | (go_keep; done)) (first | (go_at_call 147; refine (Set_core _ _ _ (CoreAt.below hC1h.out (by repeat (first | exact Below.refl _ _ | apply below_alloc | apply Below.drew | apply below_drewN | (refine below_then ?_ (by assumption)))))).mono ?_; rintro e wS ⟨rfl, hCS, hgS⟩; have kS_ea := hCS.c_ea; have hBS := hBh.out.drew_.grown hgS (fun e => by injection e with e; exact hpb e.symm); have y2 := entry_2 hBS))
        have hgx := Lib.hid (grown_then (grown_drew w hg1h.out) hgS)
        have hCSh := Lib.hid hCS
        have hltS := hCS.lt
        have hltb2 := hBS.lt
        clear F1 z0 z1 z2 kS_ea
        obtain ⟨ring9, qa9, lA9, lc9, hI9⟩ := id hCS; have F9 := core_facts hI9
        clear hI9 hCS hBS hgS
        have hCl := Lib.hid (hCSh.out.set_loads (s.e.reg == 4))
        have hgl := Lib.hid (grown_set w hgx.out 76 (.bool (s.e.reg == 4)))
        go_wp2
        clear F9
        obtain ⟨ring8, qa8, lA8, lc8, hI8⟩ := id hCl.out; have F8 := core_facts hI8
        have hlt8 := hCl.out.lt
        clear hI8
        go_region_with ((go_at_call 181; refine (wideLea_t _ _ _).mono ?_; rintro e wE ⟨rfl, hbE⟩; have hC4 := CoreAt.below (hCl.out.drew) hbE; obtain ⟨ring4, qa4, lA4, lc4, hI4⟩ := id hC4; have F4 := core_facts hI4))
        all_goals
          have hg4 := grown_then (grown_drew w hgl.out) (grown_of_below hbE (some p))
          have hlt4 := hC4.lt
          have hC4h := Lib.hid hC4
          clear hC4
          go_wp2
          first | go_end0 | refine bodyPost_ret (results_none rfl _ _ _) rfl ?_
          first | rw [hr2] | skip
          have hgx := hg4
          refine ⟨rfl, CoreAt.of ?_, ?_⟩
          · apply Exists.intro
            refine ⟨?_, ?_⟩
            · (repeat (with_reducible first | exact hC4h.out | apply CoreAt.drew | apply CoreAt.drewN | apply CoreAt.alloc | apply CoreAt.set_a | apply CoreAt.set_b | apply CoreAt.set_dp | apply CoreAt.set_cc | apply CoreAt.set_x | apply CoreAt.set_y | apply CoreAt.set_u | apply CoreAt.set_s | apply CoreAt.set_pc | apply CoreAt.set_kind | apply CoreAt.set_page | apply CoreAt.set_op | apply CoreAt.set_mode | apply CoreAt.set_reg | apply CoreAt.set_post | apply CoreAt.set_args | apply CoreAt.set_value | apply CoreAt.set_ea | apply CoreAt.set_word | apply CoreAt.set_ptr | apply CoreAt.set_stack | apply CoreAt.set_pushed | apply CoreAt.set_then_ | apply CoreAt.set_vector | apply CoreAt.set_whole | apply CoreAt.set_loads))
            · rfl
          · (repeat (with_reducible first | exact World.grownBy.refl _ _ | assumption | apply grown_drew | apply grown_drewN | apply grown_alloc | apply grown_set))
      · have hr2 : s.last = { s1 with r := s1.r.set s.e.reg s1.ea, loads := decide (s.e.reg = 4) } := by rw [hmir]; unfold Core.last2; simp [o29, r1, r2]
        have b1 : (s.e.reg == 1) = false := beq_eq_false_iff_ne.mpr r1
        have b2 : (s.e.reg == 2) = false := beq_eq_false_iff_ne.mpr r2
        have b29 : (s.e.op == 29) = true := by rw [o29]; rfl
        have b32 : (s.e.op == 32) = false := beq_eq_false_iff_ne.mpr o32
        have b33 : (s.e.op == 33) = false := beq_eq_false_iff_ne.mpr o33
        clear hmir o29 o32 o33 r1 r2
        go_wp2
        go_region_held3 (fun W => W.cell? ⟨w.heap.size, 2, none⟩ = some (.int .i64 s.e.reg) ∧ W.cell? ⟨p, 67, none⟩ = some (.int .u16 (s1.ea.toNat : Int))) (first | with_reducible exact ⟨y2, kS_ea⟩ | (go_keep; done)) (first | (go_at_call 147; refine (Set_core _ _ _ (CoreAt.below hC1h.out (by repeat (first | exact Below.refl _ _ | apply below_alloc | apply Below.drew | apply below_drewN | (refine below_then ?_ (by assumption)))))).mono ?_; rintro e wS ⟨rfl, hCS, hgS⟩; have kS_ea := hCS.c_ea; have hBS := hBh.out.drew_.grown hgS (fun e => by injection e with e; exact hpb e.symm); have y2 := entry_2 hBS))
        have hgx := Lib.hid (grown_then (grown_drew w hg1h.out) hgS)
        have hCSh := Lib.hid hCS
        have hltS := hCS.lt
        have hltb2 := hBS.lt
        clear F1 z0 z1 z2 kS_ea
        obtain ⟨ring9, qa9, lA9, lc9, hI9⟩ := id hCS; have F9 := core_facts hI9
        clear hI9 hCS hBS hgS
        go_wp2
        first | go_end0 | refine bodyPost_ret (results_none rfl _ _ _) rfl ?_
        first | rw [hr2] | skip
        have hgx := hgx.out
        refine ⟨rfl, CoreAt.of ?_, ?_⟩
        · apply Exists.intro
          refine ⟨?_, ?_⟩
          · (repeat (with_reducible first | exact hCSh.out | apply CoreAt.drew | apply CoreAt.drewN | apply CoreAt.alloc | apply CoreAt.set_a | apply CoreAt.set_b | apply CoreAt.set_dp | apply CoreAt.set_cc | apply CoreAt.set_x | apply CoreAt.set_y | apply CoreAt.set_u | apply CoreAt.set_s | apply CoreAt.set_pc | apply CoreAt.set_kind | apply CoreAt.set_page | apply CoreAt.set_op | apply CoreAt.set_mode | apply CoreAt.set_reg | apply CoreAt.set_post | apply CoreAt.set_args | apply CoreAt.set_value | apply CoreAt.set_ea | apply CoreAt.set_word | apply CoreAt.set_ptr | apply CoreAt.set_stack | apply CoreAt.set_pushed | apply CoreAt.set_then_ | apply CoreAt.set_vector | apply CoreAt.set_whole | apply CoreAt.set_loads))
          · rfl
        · (repeat (with_reducible first | exact World.grownBy.refl _ _ | assumption | apply grown_drew | apply grown_drewN | apply grown_alloc | apply grown_set))
    · have hr2 : s.last = s1 := by rw [hmir]; unfold Core.last2; simp [o32, o33, o29]
      have b32 : (s.e.op == 32) = false := beq_eq_false_iff_ne.mpr o32
      have b33 : (s.e.op == 33) = false := beq_eq_false_iff_ne.mpr o33
      have b29 : (s.e.op == 29) = false := beq_eq_false_iff_ne.mpr o29
      clear hmir o32 o33 o29
      go_wp2
      first | go_end0 | refine bodyPost_ret (results_none rfl _ _ _) rfl ?_
      first | rw [hr2] | skip
      exact ⟨rfl, hC1h.out, hg1h.out⟩
end Go.Proofs.YtkdaphkpllgmbaaGreat

/-
  Contract of core.arg.
  Contract of core.do.
-/
import Derived.Test.YtkdaphkpllgmbaaGreatM24
import Derived.Test.YtkdaphkpllgmbaaGreatM25
import Derived.Test.YtkdaphkpllgmbaaGreatM26
import Derived.Deep.CutBlock
import Derived.Test.YtkdaphkpllgmbaaGreatM16
import Derived.Test.YtkdaphkpllgmbaaGreatM22
namespace Go.Proofs.YtkdaphkpllgmbaaGreat
open Go.RowKit Sp
set_option linter.unusedVariables false
set_option linter.unusedSimpArgs false
theorem wrap64_i (n : Int) : IntKind.i64.wrap n = wrap64 n := by rw [IntKind.wrap_i64, wrap64]
theorem ready_t {p : Nat} {s : Core} (w : World) (hC : CoreAt p s w) (h : s.e.op = 41 → s.e.mode = 1) :
    Calls Tryz.prog 169 #[.pointer (some ⟨p, 0, none⟩)] w fun e w' => e = .returned (.tuple #[]) ∧ CoreAt p s.ready w' ∧ w.grownBy w' (some p) := by
  by_cases h41 : s.e.op = 41
  · exact ready_b w hC (h h41) h41
  · exact ready_a w hC h41
set_option maxRecDepth 100000 in
set_option maxHeartbeats 8000000 in
theorem arg_t {p : Nat} {s : Core} (b : UInt8) (w : World) (hC : CoreAt p s w) (h41 : s.e.op = 41 → s.e.mode = 1) :
    Calls Tryz.prog 145 #[.pointer (some ⟨p, 0, none⟩), .int .u8 (b.toNat : Int)] w fun e w' => e = .returned (.tuple #[]) ∧ CoreAt p (s.arg b) w' ∧ w.grownBy w' (some p) := by
  have hC0 := Lib.hid ((hC.set_pc (plusW s.r.pc 1)).set_args (wrap64 (s.args + 1)))
  have hg0 := Lib.hid (grown_set w (grown_set w (World.grownBy.refl w (some p)) 8 (.int .u16 ((plusW s.r.pc 1).toNat : Int))) 65 (.int .i64 (wrap64 (s.args + 1))))
  have H41 := Lib.hid h41
  have hlt := hC.lt
  have e1 := plus1_e
  have e2 := wide_e
  have e3 := join_e
  have hmir : s.arg b = (let s2 := if wrap64 (s.args + 1) = 1 ∧ posted s.e.mode = true then ({ s with r := { s.r with pc := plusW s.r.pc 1 }, args := wrap64 (s.args + 1) } : Core).postbyte b else { ({ s with r := { s.r with pc := plusW s.r.pc 1 }, args := wrap64 (s.args + 1) } : Core) with value := joinW s.value b }; if nextArg s2.q then s2 else s2.ready) := by
    unfold Core.arg
    rw [wrap64_i]
  obtain ⟨s2, hs2⟩ : ∃ s2, (if wrap64 (s.args + 1) = 1 ∧ posted s.e.mode = true then ({ s with r := { s.r with pc := plusW s.r.pc 1 }, args := wrap64 (s.args + 1) } : Core).postbyte b else { ({ s with r := { s.r with pc := plusW s.r.pc 1 }, args := wrap64 (s.args + 1) } : Core) with value := joinW s.value b }) = s2 := ⟨_, rfl⟩
  have he2 : s2.e = s.e := by
    rw [← hs2]
    split
    · unfold Core.postbyte
      dsimp only
      repeat' split
      all_goals rfl
    · rfl
  replace hmir : s.arg b = if nextArg s2.q then s2 else s2.ready := by rw [hmir, ← hs2]
  have HM := Lib.hid hmir
  have HE2 := Lib.hid he2
  have HS2 := Lib.hid hs2
  obtain ⟨ring, qa, lA, lc, hI⟩ := id hC; have F := core_facts hI
  clear hI hC h41 hmir he2 hs2
  go_enter Tryz.func145, Tryz.ntmps145
  go_upto_region 2 with fail
  clear F
  obtain ⟨ring0, qa0, lA0, lc0, hI0⟩ := id hC0.out; have F0 := core_facts hI0
  clear hI0
  have hlt0 := hC0.out.lt
  generalize (w.setCell ⟨p, 8, none⟩ (.int .u16 ((plusW s.r.pc 1).toNat : Int))).setCell ⟨p, 65, none⟩ (.int .i64 (wrap64 (s.args + 1))) = w1 at *
  go_cut [36] from 2 (fun s36 wx => s36 = .bool (decide (wrap64 (s.args + 1) = 1 ∧ posted s.e.mode = true)) ∧ w1 = wx)
  case first =>
    by_cases ha : wrap64 (s.args + 1) = 1
    · have ba : (wrap64 (s.args + 1) == 1) = true := beq_iff_eq.mpr ha
      go_wp2_with ((go_at_call 167; refine (posted_t _ _).mono ?_; rintro e wP ⟨rfl, rfl⟩))
      all_goals
        go_meet
        case rel => exact ⟨by simp [ha], rfl⟩
    · have ba : (wrap64 (s.args + 1) == 1) = false := beq_eq_false_iff_ne.mpr ha
      go_wp2
      go_meet
      case rel => exact ⟨by simp [ha], rfl⟩
  case rest =>
    obtain ⟨rfl, rfl⟩ := hcut
    go_upto_if 36 with fail
    go_cut [] from 2 (fun wx => CoreAt p s2 wx ∧ w.grownBy wx (some p))
    case first =>
      by_cases hc : wrap64 (s.args + 1) = 1 ∧ posted s.e.mode = true
      · rw [decide_eq_true hc]
        go_wp2_with fail
        refine (postbyte_t b _ hC0.out).mono ?_
        rintro e w2 ⟨rfl, hC2, hg2⟩
        go_wp2_with fail
        go_meet
        case rel =>
          rw [← HS2.out, if_pos hc]
          exact ⟨hC2, grown_then hg0.out hg2⟩
      · rw [decide_eq_false hc]
        go_wp2
        go_meet
        case rel =>
          rw [← HS2.out, if_neg hc]
          have hgx := hg0.out
          refine ⟨CoreAt.of ?_, ?_⟩
          · apply Exists.intro
            refine ⟨?_, ?_⟩
            · (repeat (with_reducible first | exact hC0.out | apply CoreAt.drew | apply CoreAt.drewN | apply CoreAt.alloc | apply CoreAt.set_a | apply CoreAt.set_b | apply CoreAt.set_dp | apply CoreAt.set_cc | apply CoreAt.set_x | apply CoreAt.set_y | apply CoreAt.set_u | apply CoreAt.set_s | apply CoreAt.set_pc | apply CoreAt.set_kind | apply CoreAt.set_page | apply CoreAt.set_op | apply CoreAt.set_mode | apply CoreAt.set_reg | apply CoreAt.set_post | apply CoreAt.set_args | apply CoreAt.set_value | apply CoreAt.set_ea | apply CoreAt.set_word | apply CoreAt.set_ptr | apply CoreAt.set_stack | apply CoreAt.set_pushed | apply CoreAt.set_then_ | apply CoreAt.set_vector | apply CoreAt.set_whole | apply CoreAt.set_loads))
            · rfl
          · (repeat (with_reducible first | exact World.grownBy.refl _ _ | assumption | apply grown_drew | apply grown_drewN | apply grown_alloc | apply grown_set))
    case rest =>
      obtain ⟨hC2, hg2⟩ := hcut
      have hC2h := Lib.hid hC2
      have hg2h := Lib.hid hg2
      clear F0 hlt0 hg2
      obtain ⟨ring2, qa2, lA2, lc2, hI2⟩ := id hC2; have F2 := core_facts hI2
      have hlt2 := hC2.lt
      clear hI2 hC2
      go_wp2_with fail
      refine (Peek_core _ hC2h.out).mono ?_
      rintro e w3 ⟨rfl, hb3⟩
      have hC3 := Lib.hid (CoreAt.below hC2h.out hb3)
      have hg3 := Lib.hid (grown_then hg2h.out (grown_of_below hb3 (some p)))
      clear F2 hb3
      have hN : nextArg s2.q = (!s2.q.isEmpty && ((headS s2.q).kind == 2)) := by
        cases s2.q with
        | nil => rfl
        | cons t q => rfl
      generalize hk : (headS s2.q).kind = k at *
      generalize hbz : (headS s2.q).busy = bz at *
      have hC4 := Lib.hid (hC3.out.alloc (.cells #[.int .i64 k, .bool bz] 202))
      have hg4 := Lib.hid (grown_alloc w hg3.out (.cells #[.int .i64 k, .bool bz] 202))
      have hB := Blk.newAt w3 202 #[.int .i64 k, .bool bz] w3.heap.size (by simp)
      cases hq : s2.q.isEmpty
      · rw [hq] at hN
        by_cases h2 : k = 2
        · have bk : (k != 2) = false := by rw [h2]; rfl
          have hr : s.arg b = s2 := by rw [HM.out, hN, h2]; rfl
          clear hN h2
          have HR := Lib.hid hr
          clear hr
          go_wp2
          first | go_end0 | refine bodyPost_ret (results_none rfl _ _ _) rfl ?_
          rw [HR.out]
          exact ⟨rfl, hC4.out, hg4.out⟩
        · have bk : (k != 2) = true := bne_iff_ne.mpr h2
          have hr : s.arg b = s2.ready := by rw [HM.out, hN, beq_eq_false_iff_ne.mpr h2]; rfl
          clear hN h2
          have HR := Lib.hid hr
          clear hr
          go_wp2_with fail
          refine (ready_t _ hC4.out (by rw [HE2.out]; exact H41.out)).mono ?_
          rintro e w5 ⟨rfl, hC5, hg5⟩
          go_wp2_with fail
          first | go_end0 | refine bodyPost_ret (results_none rfl _ _ _) rfl ?_
          rw [HR.out]
          exact ⟨rfl, hC5, grown_then hg4.out hg5⟩
      · have hr : s.arg b = s2.ready := by rw [HM.out, hN, hq]; rfl
        clear hN
        have HR := Lib.hid hr
        clear hr
        go_wp2_with fail
        refine (ready_t _ hC4.out (by rw [HE2.out]; exact H41.out)).mono ?_
        rintro e w5 ⟨rfl, hC5, hg5⟩
        go_wp2_with fail
        first | go_end0 | refine bodyPost_ret (results_none rfl _ _ _) rfl ?_
        rw [HR.out]
        exact ⟨rfl, hC5, grown_then hg4.out hg5⟩
end Go.Proofs.YtkdaphkpllgmbaaGreat
namespace Go.Proofs.YtkdaphkpllgmbaaGreat
open Go.RowKit Sp
set_option linter.unusedVariables false
set_option linter.unusedSimpArgs false
set_option maxRecDepth 100000 in
set_option maxHeartbeats 2000000 in
theorem do_1 {p : Nat} {s : Core} (z : Bool) (b : UInt8) (w : World) (hC : CoreAt p s w) :
    Calls Tryz.prog 119 #[.pointer (some ⟨p, 0, none⟩), .agg #[.int .i64 1, .bool z], .int .u8 (b.toNat : Int)] w fun e w' => e = .returned (.tuple #[]) ∧ CoreAt p (s.opcode b) w' ∧ w.grownBy w' (some p) := by
  have hlt := hC.lt
  have hC1 := Lib.hid (hC.alloc (.cells #[.int .i64 1, .bool z] 202))
  have hg1 := Lib.hid (grown_alloc w (World.grownBy.refl w (some p)) (.cells #[.int .i64 1, .bool z] 202))
  obtain ⟨ring, qa, lA, lc, hI⟩ := id hC; have F := core_facts hI
  clear hI hC
  go_enter Tryz.func119, Tryz.ntmps119
  go_wp2_with fail
  refine (opcode_t b _ hC1.out).mono ?_
  rintro e w2 ⟨rfl, hC2, hg2⟩
  go_wp2_with fail
  first | go_end0 | refine bodyPost_ret (results_none rfl _ _ _) rfl ?_
  exact ⟨rfl, hC2, grown_then hg1.out hg2⟩
set_option maxRecDepth 100000 in
set_option maxHeartbeats 2000000 in
theorem do_2 {p : Nat} {s : Core} (z : Bool) (b : UInt8) (w : World) (hC : CoreAt p s w) (h41 : s.e.op = 41 → s.e.mode = 1) :
    Calls Tryz.prog 119 #[.pointer (some ⟨p, 0, none⟩), .agg #[.int .i64 2, .bool z], .int .u8 (b.toNat : Int)] w fun e w' => e = .returned (.tuple #[]) ∧ CoreAt p (s.arg b) w' ∧ w.grownBy w' (some p) := by
  have hlt := hC.lt
  have hC1 := Lib.hid (hC.alloc (.cells #[.int .i64 2, .bool z] 202))
  have hg1 := Lib.hid (grown_alloc w (World.grownBy.refl w (some p)) (.cells #[.int .i64 2, .bool z] 202))
  have H41 := Lib.hid h41
  clear h41
  obtain ⟨ring, qa, lA, lc, hI⟩ := id hC; have F := core_facts hI
  clear hI hC
  go_enter Tryz.func119, Tryz.ntmps119
  go_wp2_with fail
  refine (arg_t b _ hC1.out H41.out).mono ?_
  rintro e w2 ⟨rfl, hC2, hg2⟩
  go_wp2_with fail
  first | go_end0 | refine bodyPost_ret (results_none rfl _ _ _) rfl ?_
  exact ⟨rfl, hC2, grown_then hg1.out hg2⟩
set_option maxRecDepth 100000 in
set_option maxHeartbeats 2000000 in
theorem do_5 {p : Nat} {s : Core} (z : Bool) (b : UInt8) (w : World) (hC : CoreAt p s w) :
    Calls Tryz.prog 119 #[.pointer (some ⟨p, 0, none⟩), .agg #[.int .i64 5, .bool z], .int .u8 (b.toNat : Int)] w fun e w' => e = .returned (.tuple #[]) ∧ CoreAt p (s.load ⟨5, z⟩ b) w' ∧ w.grownBy w' (some p) := by
  have hlt := hC.lt
  have hC1 := Lib.hid (hC.alloc (.cells #[.int .i64 5, .bool z] 202))
  have hg1 := Lib.hid (grown_alloc w (World.grownBy.refl w (some p)) (.cells #[.int .i64 5, .bool z] 202))
  obtain ⟨ring, qa, lA, lc, hI⟩ := id hC; have F := core_facts hI
  clear hI hC
  go_enter Tryz.func119, Tryz.ntmps119
  go_wp2_with fail
  refine (load_t 5 z b _ hC1.out).mono ?_
  rintro e w2 ⟨rfl, hC2, hg2⟩
  go_wp2_with fail
  first | go_end0 | refine bodyPost_ret (results_none rfl _ _ _) rfl ?_
  exact ⟨rfl, hC2, grown_then hg1.out hg2⟩
set_option maxRecDepth 100000 in
set_option maxHeartbeats 2000000 in
theorem do_9a {p : Nat} {s : Core} (z : Bool) (b : UInt8) (w : World) (hC : CoreAt p s w) (x : Part) (l : List Part) (hl : s.list = x :: l) (hop : s.e.op ≠ 49 ∨ x.reg ≠ 10) :
    Calls Tryz.prog 119 #[.pointer (some ⟨p, 0, none⟩), .agg #[.int .i64 9, .bool z], .int .u8 (b.toNat : Int)] w fun e w' => e = .returned (.tuple #[]) ∧ CoreAt p ({ s with list := l, r := (s.r.set s.stack (plusW s.top 1)).put x b }) w' ∧ w.grownBy w' (some p) := by
  have hlt := hC.lt
  have hC1 := Lib.hid (hC.alloc (.cells #[.int .i64 9, .bool z] 202))
  have hg1 := Lib.hid (grown_alloc w (World.grownBy.refl w (some p)) (.cells #[.int .i64 9, .bool z] 202))
  obtain ⟨ring, qa, lA, lc, hI⟩ := id hC; have F := core_facts hI
  have HL := Lib.hid hl
  have HO := Lib.hid hop
  clear hI hC hl hop
  go_enter Tryz.func119, Tryz.ntmps119
  go_wp2_with fail
  have hpull : Calls Tryz.prog 148 #[.pointer (some ⟨p, 0, none⟩), .int .u8 (b.toNat : Int)] (w.alloc (.cells #[.int .i64 9, .bool z] 202)) fun e w' => e = .returned (.tuple #[]) ∧ CoreAt p ({ s with list := l, r := (s.r.set s.stack (plusW s.top 1)).put x b }) w' ∧ (w.alloc (.cells #[.int .i64 9, .bool z] 202)).grownBy w' (some p) := by
    by_cases h49 : s.e.op = 49
    · exact pull_2 x l b _ hC1.out HL.out h49 (HO.out.resolve_left (fun h => h h49))
    · exact pull_1 x l b _ hC1.out HL.out h49
  refine hpull.mono ?_
  rintro e w2 ⟨rfl, hC2, hg2⟩
  go_wp2_with fail
  first | go_end0 | refine bodyPost_ret (results_none rfl _ _ _) rfl ?_
  exact ⟨rfl, hC2, grown_then hg1.out hg2⟩
set_option maxRecDepth 100000 in
set_option maxHeartbeats 2000000 in
theorem do_9b {p : Nat} {s : Core} (z : Bool) (b : UInt8) (w : World) (hC : CoreAt p s w) (x : Part) (l : List Part) (hl : s.list = x :: l) (hop : s.e.op = 49) (hx : x.reg = 10) :
    Calls Tryz.prog 119 #[.pointer (some ⟨p, 0, none⟩), .agg #[.int .i64 9, .bool z], .int .u8 (b.toNat : Int)] w fun e w' => e = .returned (.tuple #[]) ∧ CoreAt p (({ s with list := (if hb b 128 then order 254 4 else order 128 4), r := (s.r.set s.stack (plusW s.top 1)).put x b } : Core).push (rest b)) w' ∧ w.grownBy w' (some p) := by
  have hlt := hC.lt
  have hC1 := Lib.hid (hC.alloc (.cells #[.int .i64 9, .bool z] 202))
  have hg1 := Lib.hid (grown_alloc w (World.grownBy.refl w (some p)) (.cells #[.int .i64 9, .bool z] 202))
  obtain ⟨ring, qa, lA, lc, hI⟩ := id hC; have F := core_facts hI
  have HP := pull_3 x l b _ hC1.out hl hop hx
  obtain ⟨L, hL⟩ : ∃ L, (if hb b 128 then order 254 4 else order 128 4) = L := ⟨_, rfl⟩
  rw [hL] at HP ⊢
  replace HP := Lib.hid HP
  clear hI hC hl hop hx hL
  go_enter Tryz.func119, Tryz.ntmps119
  go_wp2_with fail
  refine HP.out.mono ?_
  rintro e w2 ⟨rfl, hC2, hg2⟩
  go_wp2_with fail
  first | go_end0 | refine bodyPost_ret (results_none rfl _ _ _) rfl ?_
  exact ⟨rfl, hC2, grown_then hg1.out hg2⟩
set_option maxRecDepth 100000 in
set_option maxHeartbeats 2000000 in
theorem do_11 {p : Nat} {s : Core} (z : Bool) (b : UInt8) (w : World) (hC : CoreAt p s w) :
    Calls Tryz.prog 119 #[.pointer (some ⟨p, 0, none⟩), .agg #[.int .i64 11, .bool z], .int .u8 (b.toNat : Int)] w fun e w' => e = .returned (.tuple #[]) ∧ CoreAt p (s.pointer ⟨11, z⟩ b) w' ∧ w.grownBy w' (some p) := by
  have hlt := hC.lt
  have hC1 := Lib.hid (hC.alloc (.cells #[.int .i64 11, .bool z] 202))
  have hg1 := Lib.hid (grown_alloc w (World.grownBy.refl w (some p)) (.cells #[.int .i64 11, .bool z] 202))
  obtain ⟨ring, qa, lA, lc, hI⟩ := id hC; have F := core_facts hI
  clear hI hC
  go_enter Tryz.func119, Tryz.ntmps119
  go_wp2_with fail
  refine (pointer_t 11 z b _ hC1.out).mono ?_
  rintro e w2 ⟨rfl, hC2, hg2⟩
  go_wp2_with fail
  first | go_end0 | refine bodyPost_ret (results_none rfl _ _ _) rfl ?_
  exact ⟨rfl, hC2, grown_then hg1.out hg2⟩
set_option maxRecDepth 100000 in
set_option maxHeartbeats 2000000 in
theorem do_12 {p : Nat} {s : Core} (z : Bool) (b : UInt8) (w : World) (hC : CoreAt p s w) :
    Calls Tryz.prog 119 #[.pointer (some ⟨p, 0, none⟩), .agg #[.int .i64 12, .bool z], .int .u8 (b.toNat : Int)] w fun e w' => e = .returned (.tuple #[]) ∧ CoreAt p (s.pointer ⟨12, z⟩ b) w' ∧ w.grownBy w' (some p) := by
  have hlt := hC.lt
  have hC1 := Lib.hid (hC.alloc (.cells #[.int .i64 12, .bool z] 202))
  have hg1 := Lib.hid (grown_alloc w (World.grownBy.refl w (some p)) (.cells #[.int .i64 12, .bool z] 202))
  obtain ⟨ring, qa, lA, lc, hI⟩ := id hC; have F := core_facts hI
  clear hI hC
  go_enter Tryz.func119, Tryz.ntmps119
  go_wp2_with fail
  refine (pointer_t 12 z b _ hC1.out).mono ?_
  rintro e w2 ⟨rfl, hC2, hg2⟩
  go_wp2_with fail
  first | go_end0 | refine bodyPost_ret (results_none rfl _ _ _) rfl ?_
  exact ⟨rfl, hC2, grown_then hg1.out hg2⟩
set_option maxRecDepth 100000 in
set_option maxHeartbeats 2000000 in
theorem do_6 {p : Nat} {s : Core} (z : Bool) (b : UInt8) (w : World) (hC : CoreAt p s w) :
    Calls Tryz.prog 119 #[.pointer (some ⟨p, 0, none⟩), .agg #[.int .i64 6, .bool z], .int .u8 (b.toNat : Int)] w fun e w' => e = .returned (.tuple #[]) ∧ CoreAt p ({ s with ea := plusW s.ea 1 }) w' ∧ w.grownBy w' (some p) := by
  have hlt := hC.lt
  have hC1 := Lib.hid (hC.alloc (.cells #[.int .i64 6, .bool z] 202))
  have hg1 := Lib.hid (grown_alloc w (World.grownBy.refl w (some p)) (.cells #[.int .i64 6, .bool z] 202))
  have e1 := plus1_e
  obtain ⟨ring, qa, lA, lc, hI⟩ := id hC; have F := core_facts hI
  have hCx := Lib.hid ((hC.set_ea (plusW s.ea 1)).alloc (.cells #[.int .i64 6, .bool z] 202))
  clear hI hC
  go_enter Tryz.func119, Tryz.ntmps119
  go_wp2
  first | go_end0 | refine bodyPost_ret (results_none rfl _ _ _) rfl ?_
  exact ⟨rfl, hCx.out, grown_alloc w (grown_set w (World.grownBy.refl w (some p)) 67 _) _⟩
set_option maxRecDepth 100000 in
set_option maxHeartbeats 2000000 in
theorem do_x {p : Nat} {s : Core} (k : Int) (z : Bool) (b : UInt8) (w : World) (hC : CoreAt p s w) (h1 : k ≠ 1) (h2 : k ≠ 2) (h5 : k ≠ 5) (h6 : k ≠ 6) (h8 : k ≠ 8) (h9 : k ≠ 9) (h11 : k ≠ 11) (h12 : k ≠ 12) :
    Calls Tryz.prog 119 #[.pointer (some ⟨p, 0, none⟩), .agg #[.int .i64 k, .bool z], .int .u8 (b.toNat : Int)] w fun e w' => e = .returned (.tuple #[]) ∧ CoreAt p (s) w' ∧ w.grownBy w' (some p) := by
  have hlt := hC.lt
  have hC1 := Lib.hid (hC.alloc (.cells #[.int .i64 k, .bool z] 202))
  have hg1 := Lib.hid (grown_alloc w (World.grownBy.refl w (some p)) (.cells #[.int .i64 k, .bool z] 202))
  have b1 : (k == 1) = false := beq_eq_false_iff_ne.mpr h1
  have b2 : (k == 2) = false := beq_eq_false_iff_ne.mpr h2
  have b5 : (k == 5) = false := beq_eq_false_iff_ne.mpr h5
  have b6 : (k == 6) = false := beq_eq_false_iff_ne.mpr h6
  have b8 : (k == 8) = false := beq_eq_false_iff_ne.mpr h8
  have b9 : (k == 9) = false := beq_eq_false_iff_ne.mpr h9
  have b11 : (k == 11) = false := beq_eq_false_iff_ne.mpr h11
  have b12 : (k == 12) = false := beq_eq_false_iff_ne.mpr h12
  obtain ⟨ring, qa, lA, lc, hI⟩ := id hC; have F := core_facts hI
  clear hI hC h1 h2 h5 h6 h8 h9 h11 h12
  go_enter Tryz.func119, Tryz.ntmps119
  go_wp2
  first | go_end0 | refine bodyPost_ret (results_none rfl _ _ _) rfl ?_
  exact ⟨rfl, hC1.out, hg1.out⟩
set_option maxRecDepth 100000 in
set_option maxHeartbeats 2000000 in
theorem do_8 {p : Nat} {s : Core} (z : Bool) (b : UInt8) (w : World) (hC : CoreAt p s w) (x : Part) (l : List Part) (hl : s.list = x :: l) :
    Calls Tryz.prog 119 #[.pointer (some ⟨p, 0, none⟩), .agg #[.int .i64 8, .bool z], .int .u8 (b.toNat : Int)] w fun e w' => e = .returned (.tuple #[]) ∧ CoreAt p ({ s with r := s.r.set s.stack (minusW s.top 1), list := l }) w' ∧ w.grownBy w' (some p) := by
  have hlt := hC.lt
  have hC1 := Lib.hid (hC.alloc (.cells #[.int .i64 8, .bool z] 202))
  have hg1 := Lib.hid (grown_alloc w (World.grownBy.refl w (some p)) (.cells #[.int .i64 8, .bool z] 202))
  have e1 := minus1_e
  obtain ⟨ring, qa, lA, lc, hI⟩ := id hC; have F := core_facts hI
  have HL := Lib.hid hl
  clear hI hC hl
  go_enter Tryz.func119, Tryz.ntmps119
  go_wp2
  clear F
  obtain ⟨ring1, qa1, lA1, lc1, hI1⟩ := id hC1.out; have F1 := core_facts hI1
  have hlt1 := hC1.out.lt
  clear hI1
  generalize w.alloc (.cells #[.int .i64 8, .bool z] 202) = w0 at *
  go_region_held3 (fun W => W.cell? ⟨p, 71, none⟩ = some (.int .i64 s.stack)) (first | (go_keep; done) | assumption | (simp [*, set_far, World.cell?_alloc_some, World.cell?_setCell_far]; done)) (first | (go_at_call 116; refine (top_t _ (CoreAt.below hC1.out (by repeat (first | exact Below.refl _ _ | apply below_alloc | apply Below.drew | apply below_drewN | (refine below_then ?_ (by assumption)))))).mono ?_; rintro e w1 ⟨rfl, n, rfl⟩) | (go_at_call 147; refine (Set_core _ _ _ (CoreAt.below hC1.out (by repeat (first | exact Below.refl _ _ | apply below_alloc | apply Below.drew | apply below_drewN | (refine below_then ?_ (by assumption)))))).mono ?_; rintro e wS ⟨rfl, hCS, hgS⟩; have kS_stack := hCS.c_stack))
  have hgx := hg1.out
  have hg2 := Lib.hid (grown_then (show w.grownBy _ (some p) from by (repeat (with_reducible first | exact World.grownBy.refl _ _ | assumption | apply grown_drew | apply grown_drewN | apply grown_alloc | apply grown_set))) hgS)
  obtain ⟨ring2, qa2, lA2, lc2, hI2⟩ := id hCS
  have hok : ListOk wS lA2 (x :: l) := HL.out ▸ hI2.list
  have hcap : (x :: l).length ≤ lc2 := HL.out ▸ hI2.cap
  have hF2 := core_facts hI2
  have F2 : wS.cell? ⟨p, 70, none⟩ = some (.slice lA2 (x :: l).length lc2) ∧ (∀ i, wS.frozen? ⟨p, i, none⟩ = false) := by
    refine ⟨?_, hF2.2⟩
    have h := hF2.1
    simp only [HL.out] at h
    exact h.2.2.2.2.2.2.2.2.2.2.2.2.2.2.2.2.2.2.2.2.2.2.2.2.2.2
  obtain ⟨g, off, rfl, p0, p1, hgw⟩ := hok.head
  have HTL := Lib.hid hok.tail
  have hlt2 := hCS.lt
  have hCSh := Lib.hid hCS
  simp only [List.length_cons] at F2 hcap
  obtain ⟨m, hm⟩ : ∃ m, l.length = m := ⟨_, rfl⟩
  rw [hm] at F2 hcap
  have HM := Lib.hid hm
  clear F1 hI2 hF2 hok hm hgS hgx kS_stack
  have hlc : 1 ≤ lc2 := by omega
  by_cases hc1 : lc2 = 1
  · subst hc1
    obtain rfl : m = 0 := by omega
    have HNIL := Lib.hid (List.eq_nil_of_length_eq_zero HM.out)
    have hW0 := CoreAt.set_list hCS (some ⟨g, off, none⟩) 0 l (HNIL.out ▸ ListOk.nil_ _ _) (by rw [HM.out]; omega)
    rw [HM.out] at hW0
    have hW := Lib.hid hW0
    clear hCS hW0
    go_wp2
    first | go_end0 | refine bodyPost_ret (results_none rfl _ _ _) rfl ?_
    exact ⟨rfl, hW.out, grown_set w hg2.out 70 _⟩
  · have hne1 : 1 ≠ lc2 := fun e => hc1 e.symm
    have hW0 := CoreAt.set_list hCS (some ⟨g, off + 2, none⟩) (lc2 - 1) l HTL.out (by rw [HM.out]; omega)
    rw [HM.out] at hW0
    have hW := Lib.hid hW0
    clear hCS hW0
    go_wp2
    first | go_end0 | refine bodyPost_ret (results_none rfl _ _ _) rfl ?_
    exact ⟨rfl, hW.out, grown_set w hg2.out 70 _⟩
set_option maxRecDepth 100000 in
set_option maxHeartbeats 1000000 in
theorem do_t {p : Nat} {s : Core} (k : Int) (z : Bool) (b : UInt8) (w : World) (hC : CoreAt p s w) (h41 : s.e.op = 41 → s.e.mode = 1) (hne : k = 8 ∨ k = 9 → s.list ≠ []) :
    Calls Tryz.prog 119 #[.pointer (some ⟨p, 0, none⟩), .agg #[.int .i64 k, .bool z], .int .u8 (b.toNat : Int)] w fun e w' => e = .returned (.tuple #[]) ∧ CoreAt p (s.do_ ⟨k, z⟩ b) w' ∧ w.grownBy w' (some p) := by
  have hcons : k = 8 ∨ k = 9 → ∃ x l, s.list = x :: l := fun h => by
    have := hne h
    cases hsl : s.list with
    | nil => exact absurd hsl this
    | cons x l => exact ⟨x, l, rfl⟩
  by_cases h1 : k = 1
  · subst h1; exact do_1 z b w hC
  by_cases h2 : k = 2
  · subst h2; exact do_2 z b w hC h41
  by_cases h5 : k = 5
  · subst h5; exact do_5 z b w hC
  by_cases h6 : k = 6
  · subst h6; exact do_6 z b w hC
  by_cases h8 : k = 8
  · subst h8
    obtain ⟨x, l, hl⟩ := hcons (.inl rfl)
    have h := do_8 z b w hC x l hl
    rw [show s.do_ ⟨8, z⟩ b = { s with r := s.r.set s.stack (minusW s.top 1), list := l } from by unfold Core.do_; simp [hl]]
    exact h
  by_cases h9 : k = 9
  · subst h9
    obtain ⟨x, l, hl⟩ := hcons (.inr rfl)
    rw [show s.do_ ⟨9, z⟩ b = s.pull b from by unfold Core.do_; simp]
    by_cases hop : s.e.op ≠ 49 ∨ x.reg ≠ 10
    · rw [show s.pull b = { s with list := l, r := (s.r.set s.stack (plusW s.top 1)).put x b } from by unfold Core.pull; simp only [hl, List.headD, List.tail]; rw [if_pos hop]]
      exact do_9a z b w hC x l hl hop
    · rw [show s.pull b = ({ s with list := (if hb b 128 then order 254 4 else order 128 4), r := (s.r.set s.stack (plusW s.top 1)).put x b } : Core).push (rest b) from by unfold Core.pull; simp only [hl, List.headD, List.tail]; rw [if_neg hop]]
      have h49 : s.e.op = 49 := Classical.byContradiction (fun h => hop (.inl h))
      have h10 : x.reg = 10 := Classical.byContradiction (fun h => hop (.inr h))
      exact do_9b z b w hC x l hl h49 h10
  by_cases h11 : k = 11
  · subst h11; exact do_11 z b w hC
  by_cases h12 : k = 12
  · subst h12; exact do_12 z b w hC
  · rw [show s.do_ ⟨k, z⟩ b = s from by unfold Core.do_; simp [h1, h2, h5, h6, h8, h9, h11, h12]]
    exact do_x k z b w hC h1 h2 h5 h6 h8 h9 h11 h12
end Go.Proofs.YtkdaphkpllgmbaaGreat

-- PRINTED BY print.sh 35421559b90ae4d0a3588c463048766b98c2df88dd9212a6774a882060cdf62d: not written by this session
import Derived.Test.YtgebopmiefgdoaaPOctetSignsx0
namespace Go.Proofs.Ytgebopmiefgdoaa.POctetSigns
open Go.RowKit Go.Proofs.YtgebopmiefgdoaaW.PrintWords Go.Proofs.YtgebopmiefgdoaaW.PrintLast Go.Proofs.YtgebopmiefgdoaaW.PrintMore
attribute [local go_sem] max2_int min2_int max_two min_two max_three min_three max_four min_four   -- for this text's walks alone
set_option linter.unusedVariables false
set_option linter.unusedSimpArgs false

/-! ### octet_Sign: function 20 -/
def octet_Sign.f (a0 : Int) : Option (Int) := some (IntKind.u16.wrap (IntKind.i16.wrap (IntKind.i8.wrap (a0))))
set_option maxHeartbeats 8000000 in
set_option maxRecDepth 100000 in
theorem octet_Sign.calls (a0 : Int) (r : Int) (w : World) (h : octet_Sign.f a0 = some r) :
    Calls Try.prog 20 #[.int .u8 a0] w fun e w' => e = .returned (.int .u16 r) ∧ Drawn0 w w' := by
  have H : (some (IntKind.u16.wrap (IntKind.i16.wrap (IntKind.i8.wrap (a0))))) = some r := h
  clear h
  obtain rfl := Option.some.inj H
  go_enter Try.func20, Try.ntmps20
  go_wp2
  go_ret
  exact ⟨by first | rfl | (simp; done) | (simp [*]; done), by repeat (first | exact Drawn0.refl _ | apply Drawn0.step)⟩

/-! ### octet_Sign5: function 21 -/
def octet_Sign5.f (a0 : Int) : Option (Int) := some (IntKind.u16.wrap (IntKind.i16.wrap ((IntKind.i8.wrap ((a0 * 8) % 256)) / 8)))
set_option maxHeartbeats 8000000 in
set_option maxRecDepth 100000 in
theorem octet_Sign5.calls (a0 : Int) (r : Int) (w : World) (h : octet_Sign5.f a0 = some r) :
    Calls Try.prog 21 #[.int .u8 a0] w fun e w' => e = .returned (.int .u16 r) ∧ Drawn0 w w' := by
  have H : (some (IntKind.u16.wrap (IntKind.i16.wrap ((IntKind.i8.wrap ((a0 * 8) % 256)) / 8)))) = some r := h
  clear h
  obtain rfl := Option.some.inj H
  go_enter Try.func21, Try.ntmps21
  go_wp2
  go_ret
  exact ⟨by first | rfl | (simp; done) | (simp [*]; done), by repeat (first | exact Drawn0.refl _ | apply Drawn0.step)⟩

/-! ### spinetlaw01_alive: function 22 -/
def spinetlaw01_alive.f  : Option (Bool) := (octet_Sign.f 254).bind fun t101 => (if t101 = 65534 then ((octet_Sign5.f 16).bind fun t102 => (some (t102 == 65520))) else (some false))
set_option maxHeartbeats 8000000 in
set_option maxRecDepth 100000 in
theorem spinetlaw01_alive.calls  (r : Bool) (w : World) (h : spinetlaw01_alive.f  = some r) :
    Calls Try.prog 22 #[] w fun e w' => e = .returned (.bool r) ∧ Drawn0 w w' := by
  have H : ((octet_Sign.f 254).bind fun t101 => (if t101 = 65534 then ((octet_Sign5.f 16).bind fun t102 => (some (t102 == 65520))) else (some false))) = some r := h
  clear h
  replace H := Option.bind_eq_some_iff.mp H
  obtain ⟨t101, A10, H⟩ := H
  replace H : (if t101 = 65534 then ((octet_Sign5.f 16).bind fun t102 => (some (t102 == 65520))) else (some false)) = some r := H
  have A1 := Aside0.mk A10
  clear A10
  by_cases c2 : t101 = 65534
  · rw [if_pos c2] at H
    have c2b0 : (t101 == 65534) = true := beq_iff_eq.mpr c2
    have c2b1 : (t101 != 65534) = false := bne_eq_false_iff_eq.mpr c2
    clear c2
    replace H := Option.bind_eq_some_iff.mp H
    obtain ⟨t102, A30, H⟩ := H
    replace H : (some (t102 == 65520)) = some r := H
    have A3 := Aside0.mk A30
    clear A30
    obtain rfl := Option.some.inj H
    go_enter Try.func22, Try.ntmps22
    go_wp2_with (first | ((with_reducible refine gate_callee (f := 20) rfl ?_); refine goesL_ (some 1) rfl rfl Try.func20 (by kernel_rfl) rfl #[.int .u8 254] rfl (by (try simp only [List.map_toArray, List.map_cons, List.map_nil]); first | done | rfl | (simp only [List.length_drop, List.length_take]; rfl)) ?_; (with_reducible refine (octet_Sign.calls 254 t101 _ A1.out).mono ?_); rintro e w' ⟨rfl, ⟨nd, rfl⟩⟩; refine ⟨_, rfl, ?_⟩) | (go_at_call 21; (with_reducible refine (octet_Sign5.calls 16 t102 _ A3.out).mono ?_); rintro e w' ⟨rfl, ⟨nd, rfl⟩⟩))
    go_ret
    exact ⟨by first | rfl | (simp; done) | (simp [*]; done), by repeat (first | exact Drawn0.refl _ | apply Drawn0.step)⟩
  · rw [if_neg c2] at H
    have c2b0 : (t101 == 65534) = false := beq_eq_false_iff_ne.mpr c2
    have c2b1 : (t101 != 65534) = true := bne_iff_ne.mpr c2
    obtain rfl := Option.some.inj H
    go_enter Try.func22, Try.ntmps22
    go_wp2_with (first | ((with_reducible refine gate_callee (f := 20) rfl ?_); refine goesL_ (some 1) rfl rfl Try.func20 (by kernel_rfl) rfl #[.int .u8 254] rfl (by (try simp only [List.map_toArray, List.map_cons, List.map_nil]); first | done | rfl | (simp only [List.length_drop, List.length_take]; rfl)) ?_; (with_reducible refine (octet_Sign.calls 254 t101 _ A1.out).mono ?_); rintro e w' ⟨rfl, ⟨nd, rfl⟩⟩; refine ⟨_, rfl, ?_⟩))
    go_ret
    exact ⟨by first | rfl | (simp; done) | (simp [*]; done), by repeat (first | exact Drawn0.refl _ | apply Drawn0.step)⟩

/-! ### spinetlaw01_OctetSigns: function 3 -/
def spinetlaw01_OctetSigns.j0 : Nat → Int → Int → Int → Option (Bool)
  | 0, _, _, _ => none
  | k + 1, x0, x3, x4 => if x4 > 15 then ((octet_Sign.f x0).bind fun t103 => (if (wrap64 (t103)) = x3 then ((octet_Sign5.f x0).bind fun t104 => (if (wrap64 (t104)) = (wrap64 (x4 + 65504)) then ((spinetlaw01_alive.f).bind fun t105 => (some t105)) else (some false))) else (some false))) else ((octet_Sign.f x0).bind fun t106 => (if (wrap64 (t106)) = x3 then ((octet_Sign5.f x0).bind fun t107 => (if (wrap64 (t107)) = x4 then ((spinetlaw01_alive.f).bind fun t108 => (some t108)) else (some false))) else (some false)))
def spinetlaw01_OctetSigns.f (k : Nat) (a0 : Int) : Option (Bool) := if (wrap64 (a0)) > 127 then (spinetlaw01_OctetSigns.j0 k a0 (wrap64 ((wrap64 (a0)) + 65280)) (Int.tmod (wrap64 (a0)) 32)) else (spinetlaw01_OctetSigns.j0 k a0 (wrap64 (a0)) (Int.tmod (wrap64 (a0)) 32))
theorem spinetlaw01_OctetSigns.mono_l : ∀ k, (∀ y0 y1 y2, LeO (spinetlaw01_OctetSigns.j0 k y0 y1 y2) (spinetlaw01_OctetSigns.j0 (k + 1) y0 y1 y2))
  | 0 => fun _ _ _ r h => by simp [spinetlaw01_OctetSigns.j0] at h
  | k + 1 => by
    have ih0 := spinetlaw01_OctetSigns.mono_l k
    · intro y0 y1 y2
      unfold spinetlaw01_OctetSigns.j0
      repeat' first
      | (with_reducible exact ih0 _ _ _)
      | (with_reducible exact LeO.refl _)
      | (with_reducible exact LeO.none _)
      | (with_reducible refine LeO.ite ?_ ?_)
      | (with_reducible refine LeO.bind ?_ (fun _ => ?_))
      | exact ih0 _ _ _
      | exact LeO.none _
      | refine LeO.ite ?_ ?_
      | refine LeO.bind ?_ (fun _ => ?_)
theorem spinetlaw01_OctetSigns.mono : ∀ a0 k, LeO (spinetlaw01_OctetSigns.f k a0) (spinetlaw01_OctetSigns.f (k + 1) a0) := by
  intro a0 k
  have ih0 := spinetlaw01_OctetSigns.mono_l k
  unfold spinetlaw01_OctetSigns.f
  repeat' first
      | (with_reducible exact ih0 _ _ _)
      | (with_reducible exact LeO.refl _)
      | (with_reducible exact LeO.none _)
      | (with_reducible refine LeO.ite ?_ ?_)
      | (with_reducible refine LeO.bind ?_ (fun _ => ?_))
      | exact ih0 _ _ _
      | exact LeO.none _
      | refine LeO.ite ?_ ?_
      | refine LeO.bind ?_ (fun _ => ?_)
set_option maxHeartbeats 8000000 in
set_option maxRecDepth 100000 in
theorem spinetlaw01_OctetSigns.calls (k : Nat) (a0 : Int) (r : Bool) (w : World) (h : spinetlaw01_OctetSigns.f k a0 = some r) :
    Calls Try.prog 3 #[.int .u8 a0] w fun e w' => e = .returned (.bool r) ∧ Drawn0 w w' := by
  have H : (if (wrap64 (a0)) > 127 then (spinetlaw01_OctetSigns.j0 k a0 (wrap64 ((wrap64 (a0)) + 65280)) (Int.tmod (wrap64 (a0)) 32)) else (spinetlaw01_OctetSigns.j0 k a0 (wrap64 (a0)) (Int.tmod (wrap64 (a0)) 32))) = some r := h
  clear h
  have HC2 := Aside0.mk H
  clear H
  go_enter Try.func3, Try.ntmps3
  go_upto_if 11 with (fail)
  go_cut [3] (fun v3 wc => ∃ (kq : Nat) (x3_1 : Int), v3 = .int .i64 x3_1 ∧ Aside0 (spinetlaw01_OctetSigns.j0 kq a0 x3_1 (Int.tmod (wrap64 (a0)) 32) = some r) ∧ Aside0 (kq ≤ k) ∧ Drawn0 w wc)
  case first =>
    have H := HC2.out
    clear HC2
    by_cases c3 : (wrap64 (a0)) > 127
    · rw [if_pos c3] at H
      have c3b0 : decide (127 < (wrap64 (a0))) = true := decide_eq_true c3
      clear c3
      (first | rw [c3b0] | (simp only [i64_w, i32_w]; rw [c3b0]) | skip)
      have H' := Aside0.mk H
      clear H
      go_wp2
      go_meet
      case rel => exact ⟨_, (wrap64 ((wrap64 (a0)) + 65280)), (by first | rfl | (simp; done) | (simp [*]; done)), H', ⟨by first | omega | exact Nat.le_refl _⟩, by repeat (first | exact Drawn0.refl _ | apply Drawn0.step)⟩
    · rw [if_neg c3] at H
      have c3b0 : decide (127 < (wrap64 (a0))) = false := decide_eq_false c3
      clear c3
      (first | rw [c3b0] | (simp only [i64_w, i32_w]; rw [c3b0]) | skip)
      have H' := Aside0.mk H
      clear H
      go_wp2
      go_meet
      case rel => exact ⟨_, (wrap64 (a0)), (by first | rfl | (simp; done) | (simp [*]; done)), H', ⟨by first | omega | exact Nat.le_refl _⟩, by repeat (first | exact Drawn0.refl _ | apply Drawn0.step)⟩
  case rest =>
    clear HC2
    try clear p2
    try clear c3
    try clear c3b0
    obtain ⟨kq, x3_1, rfl, HA, HJ1, ⟨mc1, rfl⟩⟩ := hcut
    cases kq with
    | zero => exact absurd HA.out (by simp [spinetlaw01_OctetSigns.j0])
    | succ kj1 =>
      have H := HA.out
      clear HA
      simp only [spinetlaw01_OctetSigns.j0] at H
      by_cases c4 : (Int.tmod (wrap64 (a0)) 32) > 15
      · rw [if_pos c4] at H
        have c4b0 : decide (15 < (Int.tmod (wrap64 (a0)) 32)) = true := decide_eq_true c4
        clear c4
        replace H := Option.bind_eq_some_iff.mp H
        obtain ⟨t103, A50, H⟩ := H
        replace H : (if (wrap64 (t103)) = x3_1 then ((octet_Sign5.f a0).bind fun t104 => (if (wrap64 (t104)) = (wrap64 ((Int.tmod (wrap64 (a0)) 32) + 65504)) then ((spinetlaw01_alive.f).bind fun t105 => (some t105)) else (some false))) else (some false)) = some r := H
        have A5 := Aside0.mk A50
        clear A50
        by_cases c6 : (wrap64 (t103)) = x3_1
        · rw [if_pos c6] at H
          have c6b0 : ((wrap64 (t103)) == x3_1) = true := beq_iff_eq.mpr c6
          have c6b1 : ((wrap64 (t103)) != x3_1) = false := bne_eq_false_iff_eq.mpr c6
          clear c6
          replace H := Option.bind_eq_some_iff.mp H
          obtain ⟨t104, A70, H⟩ := H
          replace H : (if (wrap64 (t104)) = (wrap64 ((Int.tmod (wrap64 (a0)) 32) + 65504)) then ((spinetlaw01_alive.f).bind fun t105 => (some t105)) else (some false)) = some r := H
          have A7 := Aside0.mk A70
          clear A70
          by_cases c8 : (wrap64 (t104)) = (wrap64 ((Int.tmod (wrap64 (a0)) 32) + 65504))
          · rw [if_pos c8] at H
            have c8b0 : ((wrap64 (t104)) == (wrap64 ((Int.tmod (wrap64 (a0)) 32) + 65504))) = true := beq_iff_eq.mpr c8
            have c8b1 : ((wrap64 (t104)) != (wrap64 ((Int.tmod (wrap64 (a0)) 32) + 65504))) = false := bne_eq_false_iff_eq.mpr c8
            clear c8
            replace H := Option.bind_eq_some_iff.mp H
            obtain ⟨t105, A90, H⟩ := H
            replace H : (some t105) = some r := H
            have A9 := Aside0.mk A90
            clear A90
            obtain rfl := Option.some.inj H
            go_wp2_with (first | ((with_reducible refine gate_callee (f := 20) rfl ?_); refine goesL_ (some 19) rfl rfl Try.func20 (by kernel_rfl) rfl #[.int .u8 a0] rfl (by (try simp only [List.map_toArray, List.map_cons, List.map_nil]); first | done | rfl | (simp only [List.length_drop, List.length_take]; rfl)) ?_; (with_reducible refine (octet_Sign.calls a0 t103 _ A5.out).mono ?_); rintro e w' ⟨rfl, ⟨nd, rfl⟩⟩; refine ⟨_, rfl, ?_⟩) | (go_at_call 21; (with_reducible refine (octet_Sign5.calls a0 t104 _ A7.out).mono ?_); rintro e w' ⟨rfl, ⟨nd, rfl⟩⟩) | (go_at_call 22; (with_reducible refine (spinetlaw01_alive.calls  t105 _ A9.out).mono ?_); rintro e w' ⟨rfl, ⟨nd, rfl⟩⟩))
            go_ret
            exact ⟨by first | rfl | (simp; done) | (simp [*]; done), by repeat (first | exact Drawn0.refl _ | apply Drawn0.step)⟩
          · rw [if_neg c8] at H
            have c8b0 : ((wrap64 (t104)) == (wrap64 ((Int.tmod (wrap64 (a0)) 32) + 65504))) = false := beq_eq_false_iff_ne.mpr c8
            have c8b1 : ((wrap64 (t104)) != (wrap64 ((Int.tmod (wrap64 (a0)) 32) + 65504))) = true := bne_iff_ne.mpr c8
            obtain rfl := Option.some.inj H
            go_wp2_with (first | ((with_reducible refine gate_callee (f := 20) rfl ?_); refine goesL_ (some 19) rfl rfl Try.func20 (by kernel_rfl) rfl #[.int .u8 a0] rfl (by (try simp only [List.map_toArray, List.map_cons, List.map_nil]); first | done | rfl | (simp only [List.length_drop, List.length_take]; rfl)) ?_; (with_reducible refine (octet_Sign.calls a0 t103 _ A5.out).mono ?_); rintro e w' ⟨rfl, ⟨nd, rfl⟩⟩; refine ⟨_, rfl, ?_⟩) | (go_at_call 21; (with_reducible refine (octet_Sign5.calls a0 t104 _ A7.out).mono ?_); rintro e w' ⟨rfl, ⟨nd, rfl⟩⟩))
            go_ret
            exact ⟨by first | rfl | (simp; done) | (simp [*]; done), by repeat (first | exact Drawn0.refl _ | apply Drawn0.step)⟩
        · rw [if_neg c6] at H
          have c6b0 : ((wrap64 (t103)) == x3_1) = false := beq_eq_false_iff_ne.mpr c6
          have c6b1 : ((wrap64 (t103)) != x3_1) = true := bne_iff_ne.mpr c6
          obtain rfl := Option.some.inj H
          go_wp2_with (first | ((with_reducible refine gate_callee (f := 20) rfl ?_); refine goesL_ (some 19) rfl rfl Try.func20 (by kernel_rfl) rfl #[.int .u8 a0] rfl (by (try simp only [List.map_toArray, List.map_cons, List.map_nil]); first | done | rfl | (simp only [List.length_drop, List.length_take]; rfl)) ?_; (with_reducible refine (octet_Sign.calls a0 t103 _ A5.out).mono ?_); rintro e w' ⟨rfl, ⟨nd, rfl⟩⟩; refine ⟨_, rfl, ?_⟩))
          go_ret
          exact ⟨by first | rfl | (simp; done) | (simp [*]; done), by repeat (first | exact Drawn0.refl _ | apply Drawn0.step)⟩
      · rw [if_neg c4] at H
        have c4b0 : decide (15 < (Int.tmod (wrap64 (a0)) 32)) = false := decide_eq_false c4
        clear c4
        replace H := Option.bind_eq_some_iff.mp H
        obtain ⟨t106, A100, H⟩ := H
        replace H : (if (wrap64 (t106)) = x3_1 then ((octet_Sign5.f a0).bind fun t107 => (if (wrap64 (t107)) = (Int.tmod (wrap64 (a0)) 32) then ((spinetlaw01_alive.f).bind fun t108 => (some t108)) else (some false))) else (some false)) = some r := H
        have A10 := Aside0.mk A100
        clear A100
        by_cases c11 : (wrap64 (t106)) = x3_1
        · rw [if_pos c11] at H
          have c11b0 : ((wrap64 (t106)) == x3_1) = true := beq_iff_eq.mpr c11
          have c11b1 : ((wrap64 (t106)) != x3_1) = false := bne_eq_false_iff_eq.mpr c11
          clear c11
          replace H := Option.bind_eq_some_iff.mp H
          obtain ⟨t107, A120, H⟩ := H
          replace H : (if (wrap64 (t107)) = (Int.tmod (wrap64 (a0)) 32) then ((spinetlaw01_alive.f).bind fun t108 => (some t108)) else (some false)) = some r := H
          have A12 := Aside0.mk A120
          clear A120
          by_cases c13 : (wrap64 (t107)) = (Int.tmod (wrap64 (a0)) 32)
          · rw [if_pos c13] at H
            have c13b0 : ((wrap64 (t107)) == (Int.tmod (wrap64 (a0)) 32)) = true := beq_iff_eq.mpr c13
            have c13b1 : ((wrap64 (t107)) != (Int.tmod (wrap64 (a0)) 32)) = false := bne_eq_false_iff_eq.mpr c13
            clear c13
            replace H := Option.bind_eq_some_iff.mp H
            obtain ⟨t108, A140, H⟩ := H
            replace H : (some t108) = some r := H
            have A14 := Aside0.mk A140
            clear A140
            obtain rfl := Option.some.inj H
            go_wp2_with (first | ((with_reducible refine gate_callee (f := 20) rfl ?_); refine goesL_ (some 19) rfl rfl Try.func20 (by kernel_rfl) rfl #[.int .u8 a0] rfl (by (try simp only [List.map_toArray, List.map_cons, List.map_nil]); first | done | rfl | (simp only [List.length_drop, List.length_take]; rfl)) ?_; (with_reducible refine (octet_Sign.calls a0 t106 _ A10.out).mono ?_); rintro e w' ⟨rfl, ⟨nd, rfl⟩⟩; refine ⟨_, rfl, ?_⟩) | (go_at_call 21; (with_reducible refine (octet_Sign5.calls a0 t107 _ A12.out).mono ?_); rintro e w' ⟨rfl, ⟨nd, rfl⟩⟩) | (go_at_call 22; (with_reducible refine (spinetlaw01_alive.calls  t108 _ A14.out).mono ?_); rintro e w' ⟨rfl, ⟨nd, rfl⟩⟩))
            go_ret
            exact ⟨by first | rfl | (simp; done) | (simp [*]; done), by repeat (first | exact Drawn0.refl _ | apply Drawn0.step)⟩
          · rw [if_neg c13] at H
            have c13b0 : ((wrap64 (t107)) == (Int.tmod (wrap64 (a0)) 32)) = false := beq_eq_false_iff_ne.mpr c13
            have c13b1 : ((wrap64 (t107)) != (Int.tmod (wrap64 (a0)) 32)) = true := bne_iff_ne.mpr c13
            obtain rfl := Option.some.inj H
            go_wp2_with (first | ((with_reducible refine gate_callee (f := 20) rfl ?_); refine goesL_ (some 19) rfl rfl Try.func20 (by kernel_rfl) rfl #[.int .u8 a0] rfl (by (try simp only [List.map_toArray, List.map_cons, List.map_nil]); first | done | rfl | (simp only [List.length_drop, List.length_take]; rfl)) ?_; (with_reducible refine (octet_Sign.calls a0 t106 _ A10.out).mono ?_); rintro e w' ⟨rfl, ⟨nd, rfl⟩⟩; refine ⟨_, rfl, ?_⟩) | (go_at_call 21; (with_reducible refine (octet_Sign5.calls a0 t107 _ A12.out).mono ?_); rintro e w' ⟨rfl, ⟨nd, rfl⟩⟩))
            go_ret
            exact ⟨by first | rfl | (simp; done) | (simp [*]; done), by repeat (first | exact Drawn0.refl _ | apply Drawn0.step)⟩
        · rw [if_neg c11] at H
          have c11b0 : ((wrap64 (t106)) == x3_1) = false := beq_eq_false_iff_ne.mpr c11
          have c11b1 : ((wrap64 (t106)) != x3_1) = true := bne_iff_ne.mpr c11
          obtain rfl := Option.some.inj H
          go_wp2_with (first | ((with_reducible refine gate_callee (f := 20) rfl ?_); refine goesL_ (some 19) rfl rfl Try.func20 (by kernel_rfl) rfl #[.int .u8 a0] rfl (by (try simp only [List.map_toArray, List.map_cons, List.map_nil]); first | done | rfl | (simp only [List.length_drop, List.length_take]; rfl)) ?_; (with_reducible refine (octet_Sign.calls a0 t106 _ A10.out).mono ?_); rintro e w' ⟨rfl, ⟨nd, rfl⟩⟩; refine ⟨_, rfl, ?_⟩))
          go_ret
          exact ⟨by first | rfl | (simp; done) | (simp [*]; done), by repeat (first | exact Drawn0.refl _ | apply Drawn0.step)⟩

/-- THE ONE PURE STATEMENT of spinetlaw01_OctetSigns: yours. -/
def spinetlaw01_OctetSigns.Pure : Prop := ∀ (a0 : Int), (Lit.int .u8 a0).wf = true → ∃ k, spinetlaw01_OctetSigns.f k a0 = some true
theorem spinetlaw01_OctetSigns.walk (P : spinetlaw01_OctetSigns.Pure) (a0 : Int) (w : World) (w0 : (Lit.int .u8 a0).wf = true) :
    Calls Try.prog 3 #[.int .u8 a0] w fun e w' => e = .returned (.bool true) ∧ Below w.heap.size w w' := by
  obtain ⟨k, h⟩ := P a0 w0
  refine (spinetlaw01_OctetSigns.calls k a0 true w h).mono ?_
  rintro e w' ⟨rfl, hd⟩
  exact ⟨rfl, hd.below⟩

end Go.Proofs.Ytgebopmiefgdoaa.POctetSigns

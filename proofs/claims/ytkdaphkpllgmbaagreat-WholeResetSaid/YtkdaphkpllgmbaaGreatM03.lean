/-
  Contracts of cond.even, cond.Holds, index.Direct, index.offset, post.Of, Bytes, Idle.
-/
import Derived.Test.YtkdaphkpllgmbaaGreatM02
namespace Go.Proofs.YtkdaphkpllgmbaaGreat
open Go.RowKit Sp
set_option linter.unusedVariables false
def evenF (n : Int) (c z m v : Bool) : Bool :=
  if n = 0 then true else if n = 2 then !c && !z else if n = 4 then !c else if n = 6 then !z else if n = 8 then !v else if n = 10 then !m else if n = 12 then !(m != v) else !(m != v) && !z
set_option maxRecDepth 100000 in
set_option maxHeartbeats 4000000 in
theorem even_case (n : Int) (cc : UInt8) (c z m v : Bool) (w : World) (H1 : Hid (∀ (t : TypeId) (W : World) (g : Nat), W.heap.size = g → Calls Tryz.prog 80 #[.int .u8 (cc.toNat : Int), .slice (some ⟨g, 0, none⟩) 1 1] (W.alloc (.cells #[.int .u8 1] t)) fun e w' => e = .returned (.bool c) ∧ W.alloc (.cells #[.int .u8 1] t) = w')) (H4 : Hid (∀ (t : TypeId) (W : World) (g : Nat), W.heap.size = g → Calls Tryz.prog 80 #[.int .u8 (cc.toNat : Int), .slice (some ⟨g, 0, none⟩) 1 1] (W.alloc (.cells #[.int .u8 4] t)) fun e w' => e = .returned (.bool z) ∧ W.alloc (.cells #[.int .u8 4] t) = w')) (H8 : Hid (∀ (t : TypeId) (W : World) (g : Nat), W.heap.size = g → Calls Tryz.prog 80 #[.int .u8 (cc.toNat : Int), .slice (some ⟨g, 0, none⟩) 1 1] (W.alloc (.cells #[.int .u8 8] t)) fun e w' => e = .returned (.bool m) ∧ W.alloc (.cells #[.int .u8 8] t) = w')) (H2 : Hid (∀ (t : TypeId) (W : World) (g : Nat), W.heap.size = g → Calls Tryz.prog 80 #[.int .u8 (cc.toNat : Int), .slice (some ⟨g, 0, none⟩) 1 1] (W.alloc (.cells #[.int .u8 2] t)) fun e w' => e = .returned (.bool v) ∧ W.alloc (.cells #[.int .u8 2] t) = w')) :
    Calls Tryz.prog 220 #[.int .i64 n, .int .u8 (cc.toNat : Int)] w fun e w' => e = .returned (.bool (evenF n c z m v)) ∧ Below w.heap.size w w' := by
  rcases (show n = 0 ∨ n = 2 ∨ n = 4 ∨ n = 6 ∨ n = 8 ∨ n = 10 ∨ n = 12 ∨ (n ≠ 0 ∧ n ≠ 2 ∧ n ≠ 4 ∧ n ≠ 6 ∧ n ≠ 8 ∧ n ≠ 10 ∧ n ≠ 12) from by omega) with rfl | rfl | rfl | rfl | rfl | rfl | rfl | ⟨h0, h2, h4, h6, h8, h10, h12⟩
  rotate_left 7
  · have e0 : (n == 0) = false := beq_eq_false_iff_ne.mpr h0
    have e2 : (n == 2) = false := beq_eq_false_iff_ne.mpr h2
    have e4 : (n == 4) = false := beq_eq_false_iff_ne.mpr h4
    have e6 : (n == 6) = false := beq_eq_false_iff_ne.mpr h6
    have e8 : (n == 8) = false := beq_eq_false_iff_ne.mpr h8
    have e10 : (n == 10) = false := beq_eq_false_iff_ne.mpr h10
    have e12 : (n == 12) = false := beq_eq_false_iff_ne.mpr h12
    rw [show evenF n c z m v = (!(m != v) && !z) from by simp [evenF, h0, h2, h4, h6, h8, h10, h12]]
    cases m <;> cases v <;> cases z
    all_goals
     as_aux_lemma =>
      go_enter Tryz.func220, Tryz.ntmps220
      go_wp2_with (first | (go_at_call 80; with_reducible refine (H1.out _ _ _ ?hg).mono ?_; (case hg => first | rfl | (simp; done)); rintro e w1 ⟨rfl, rfl⟩) | (go_at_call 80; with_reducible refine (H4.out _ _ _ ?hg).mono ?_; (case hg => first | rfl | (simp; done)); rintro e w1 ⟨rfl, rfl⟩) | (go_at_call 80; with_reducible refine (H8.out _ _ _ ?hg).mono ?_; (case hg => first | rfl | (simp; done)); rintro e w1 ⟨rfl, rfl⟩) | (go_at_call 80; with_reducible refine (H2.out _ _ _ ?hg).mono ?_; (case hg => first | rfl | (simp; done)); rintro e w1 ⟨rfl, rfl⟩))
      go_ret
      exact ⟨by first | rfl | (cases m <;> cases v <;> rfl), by repeat (first | exact Below.refl _ _ | apply below_alloc | apply Below.drew | (refine below_then ?_ (by assumption)))⟩
  · as_aux_lemma =>
    go_enter Tryz.func220, Tryz.ntmps220
    go_wp2_with (first | (go_at_call 80; with_reducible refine (H1.out _ _ _ ?hg).mono ?_; (case hg => first | rfl | (simp; done)); rintro e w1 ⟨rfl, rfl⟩) | (go_at_call 80; with_reducible refine (H4.out _ _ _ ?hg).mono ?_; (case hg => first | rfl | (simp; done)); rintro e w1 ⟨rfl, rfl⟩) | (go_at_call 80; with_reducible refine (H8.out _ _ _ ?hg).mono ?_; (case hg => first | rfl | (simp; done)); rintro e w1 ⟨rfl, rfl⟩) | (go_at_call 80; with_reducible refine (H2.out _ _ _ ?hg).mono ?_; (case hg => first | rfl | (simp; done)); rintro e w1 ⟨rfl, rfl⟩))
    go_ret
    exact ⟨by first | rfl | (cases m <;> cases v <;> rfl), by repeat (first | exact Below.refl _ _ | apply below_alloc | apply Below.drew | (refine below_then ?_ (by assumption)))⟩
  · cases c <;> cases z
    all_goals
     as_aux_lemma =>
      go_enter Tryz.func220, Tryz.ntmps220
      go_wp2_with (first | (go_at_call 80; with_reducible refine (H1.out _ _ _ ?hg).mono ?_; (case hg => first | rfl | (simp; done)); rintro e w1 ⟨rfl, rfl⟩) | (go_at_call 80; with_reducible refine (H4.out _ _ _ ?hg).mono ?_; (case hg => first | rfl | (simp; done)); rintro e w1 ⟨rfl, rfl⟩) | (go_at_call 80; with_reducible refine (H8.out _ _ _ ?hg).mono ?_; (case hg => first | rfl | (simp; done)); rintro e w1 ⟨rfl, rfl⟩) | (go_at_call 80; with_reducible refine (H2.out _ _ _ ?hg).mono ?_; (case hg => first | rfl | (simp; done)); rintro e w1 ⟨rfl, rfl⟩))
      go_ret
      exact ⟨by first | rfl | (cases m <;> cases v <;> rfl), by repeat (first | exact Below.refl _ _ | apply below_alloc | apply Below.drew | (refine below_then ?_ (by assumption)))⟩
  all_goals
   as_aux_lemma =>
    go_enter Tryz.func220, Tryz.ntmps220
    go_wp2_with (first | (go_at_call 80; with_reducible refine (H1.out _ _ _ ?hg).mono ?_; (case hg => first | rfl | (simp; done)); rintro e w1 ⟨rfl, rfl⟩) | (go_at_call 80; with_reducible refine (H4.out _ _ _ ?hg).mono ?_; (case hg => first | rfl | (simp; done)); rintro e w1 ⟨rfl, rfl⟩) | (go_at_call 80; with_reducible refine (H8.out _ _ _ ?hg).mono ?_; (case hg => first | rfl | (simp; done)); rintro e w1 ⟨rfl, rfl⟩) | (go_at_call 80; with_reducible refine (H2.out _ _ _ ?hg).mono ?_; (case hg => first | rfl | (simp; done)); rintro e w1 ⟨rfl, rfl⟩))
    go_ret
    exact ⟨by first | rfl | (cases m <;> cases v <;> rfl), by repeat (first | exact Below.refl _ _ | apply below_alloc | apply Below.drew | (refine below_then ?_ (by assumption)))⟩
theorem even_t (n : Int) (cc : UInt8) (w : World) :
    Calls Tryz.prog 220 #[.int .i64 n, .int .u8 (cc.toNat : Int)] w fun e w' => e = .returned (.bool (condEven n cc)) ∧ Below w.heap.size w w' :=
  even_case n cc (hb cc 1) (hb cc 4) (hb cc 8) (hb cc 2) w (Lib.hid (fun t W g hg => Has_1 cc t W g hg)) (Lib.hid (fun t W g hg => Has_4 cc t W g hg)) (Lib.hid (fun t W g hg => Has_8 cc t W g hg)) (Lib.hid (fun t W g hg => Has_2 cc t W g hg))
set_option maxRecDepth 100000 in
set_option maxHeartbeats 4000000 in
theorem holds_t (n : Int) (cc : UInt8) (w : World) :
    Calls Tryz.prog 178 #[.int .i64 n, .int .u8 (cc.toNat : Int)] w fun e w' => e = .returned (.bool (holds n cc)) ∧ Below w.heap.size w w' := by
  by_cases h0 : 0 ≤ n
  rotate_left
  · have d0 : decide (0 ≤ n) = false := decide_eq_false h0
    rw [show holds n cc = false from by simp [holds, h0]]
    clear h0
    go_enter Tryz.func178, Tryz.ntmps178
    go_wp2
    go_ret
    exact ⟨rfl, Below.refl _ _⟩
  by_cases h1 : n < 16
  rotate_left
  · have d0 : decide (0 ≤ n) = true := decide_eq_true h0
    have d1 : decide (n < 16) = false := decide_eq_false h1
    rw [show holds n cc = false from by simp [holds, h1]]
    clear h0 h1
    go_enter Tryz.func178, Tryz.ntmps178
    go_wp2
    go_ret
    exact ⟨rfl, Below.refl _ _⟩
  rcases (show n = 0 ∨ n = 1 ∨ n = 2 ∨ n = 3 ∨ n = 4 ∨ n = 5 ∨ n = 6 ∨ n = 7 ∨ n = 8 ∨ n = 9 ∨ n = 10 ∨ n = 11 ∨ n = 12 ∨ n = 13 ∨ n = 14 ∨ n = 15 from by omega) with rfl | rfl | rfl | rfl | rfl | rfl | rfl | rfl | rfl | rfl | rfl | rfl | rfl | rfl | rfl | rfl
  · as_aux_lemma =>
    have k1 : Go.bits .andNot .i64 0 1 = 0 := by decide
    have k2 : Go.bits .and .i64 0 1 = 0 := by decide
    have HE := Lib.hid (fun W => even_t 0 cc W)
    rw [show holds 0 cc = (condEven 0 cc == true) from rfl]
    generalize condEven 0 cc = b at *
    clear h0 h1
    go_enter Tryz.func178, Tryz.ntmps178
    go_wp2_with ((go_at_call 220; with_reducible refine (HE.out _).mono ?_; rintro e w1 ⟨rfl, hb⟩))
    go_ret
    exact ⟨by first | rfl | (cases b <;> rfl), hb⟩
  · as_aux_lemma =>
    have k1 : Go.bits .andNot .i64 1 1 = 0 := by decide
    have k2 : Go.bits .and .i64 1 1 = 1 := by decide
    have HE := Lib.hid (fun W => even_t 0 cc W)
    rw [show holds 1 cc = (condEven 0 cc == false) from rfl]
    generalize condEven 0 cc = b at *
    clear h0 h1
    go_enter Tryz.func178, Tryz.ntmps178
    go_wp2_with ((go_at_call 220; with_reducible refine (HE.out _).mono ?_; rintro e w1 ⟨rfl, hb⟩))
    go_ret
    exact ⟨by first | rfl | (cases b <;> rfl), hb⟩
  · as_aux_lemma =>
    have k1 : Go.bits .andNot .i64 2 1 = 2 := by decide
    have k2 : Go.bits .and .i64 2 1 = 0 := by decide
    have HE := Lib.hid (fun W => even_t 2 cc W)
    rw [show holds 2 cc = (condEven 2 cc == true) from rfl]
    generalize condEven 2 cc = b at *
    clear h0 h1
    go_enter Tryz.func178, Tryz.ntmps178
    go_wp2_with ((go_at_call 220; with_reducible refine (HE.out _).mono ?_; rintro e w1 ⟨rfl, hb⟩))
    go_ret
    exact ⟨by first | rfl | (cases b <;> rfl), hb⟩
  · as_aux_lemma =>
    have k1 : Go.bits .andNot .i64 3 1 = 2 := by decide
    have k2 : Go.bits .and .i64 3 1 = 1 := by decide
    have HE := Lib.hid (fun W => even_t 2 cc W)
    rw [show holds 3 cc = (condEven 2 cc == false) from rfl]
    generalize condEven 2 cc = b at *
    clear h0 h1
    go_enter Tryz.func178, Tryz.ntmps178
    go_wp2_with ((go_at_call 220; with_reducible refine (HE.out _).mono ?_; rintro e w1 ⟨rfl, hb⟩))
    go_ret
    exact ⟨by first | rfl | (cases b <;> rfl), hb⟩
  · as_aux_lemma =>
    have k1 : Go.bits .andNot .i64 4 1 = 4 := by decide
    have k2 : Go.bits .and .i64 4 1 = 0 := by decide
    have HE := Lib.hid (fun W => even_t 4 cc W)
    rw [show holds 4 cc = (condEven 4 cc == true) from rfl]
    generalize condEven 4 cc = b at *
    clear h0 h1
    go_enter Tryz.func178, Tryz.ntmps178
    go_wp2_with ((go_at_call 220; with_reducible refine (HE.out _).mono ?_; rintro e w1 ⟨rfl, hb⟩))
    go_ret
    exact ⟨by first | rfl | (cases b <;> rfl), hb⟩
  · as_aux_lemma =>
    have k1 : Go.bits .andNot .i64 5 1 = 4 := by decide
    have k2 : Go.bits .and .i64 5 1 = 1 := by decide
    have HE := Lib.hid (fun W => even_t 4 cc W)
    rw [show holds 5 cc = (condEven 4 cc == false) from rfl]
    generalize condEven 4 cc = b at *
    clear h0 h1
    go_enter Tryz.func178, Tryz.ntmps178
    go_wp2_with ((go_at_call 220; with_reducible refine (HE.out _).mono ?_; rintro e w1 ⟨rfl, hb⟩))
    go_ret
    exact ⟨by first | rfl | (cases b <;> rfl), hb⟩
  · as_aux_lemma =>
    have k1 : Go.bits .andNot .i64 6 1 = 6 := by decide
    have k2 : Go.bits .and .i64 6 1 = 0 := by decide
    have HE := Lib.hid (fun W => even_t 6 cc W)
    rw [show holds 6 cc = (condEven 6 cc == true) from rfl]
    generalize condEven 6 cc = b at *
    clear h0 h1
    go_enter Tryz.func178, Tryz.ntmps178
    go_wp2_with ((go_at_call 220; with_reducible refine (HE.out _).mono ?_; rintro e w1 ⟨rfl, hb⟩))
    go_ret
    exact ⟨by first | rfl | (cases b <;> rfl), hb⟩
  · as_aux_lemma =>
    have k1 : Go.bits .andNot .i64 7 1 = 6 := by decide
    have k2 : Go.bits .and .i64 7 1 = 1 := by decide
    have HE := Lib.hid (fun W => even_t 6 cc W)
    rw [show holds 7 cc = (condEven 6 cc == false) from rfl]
    generalize condEven 6 cc = b at *
    clear h0 h1
    go_enter Tryz.func178, Tryz.ntmps178
    go_wp2_with ((go_at_call 220; with_reducible refine (HE.out _).mono ?_; rintro e w1 ⟨rfl, hb⟩))
    go_ret
    exact ⟨by first | rfl | (cases b <;> rfl), hb⟩
  · as_aux_lemma =>
    have k1 : Go.bits .andNot .i64 8 1 = 8 := by decide
    have k2 : Go.bits .and .i64 8 1 = 0 := by decide
    have HE := Lib.hid (fun W => even_t 8 cc W)
    rw [show holds 8 cc = (condEven 8 cc == true) from rfl]
    generalize condEven 8 cc = b at *
    clear h0 h1
    go_enter Tryz.func178, Tryz.ntmps178
    go_wp2_with ((go_at_call 220; with_reducible refine (HE.out _).mono ?_; rintro e w1 ⟨rfl, hb⟩))
    go_ret
    exact ⟨by first | rfl | (cases b <;> rfl), hb⟩
  · as_aux_lemma =>
    have k1 : Go.bits .andNot .i64 9 1 = 8 := by decide
    have k2 : Go.bits .and .i64 9 1 = 1 := by decide
    have HE := Lib.hid (fun W => even_t 8 cc W)
    rw [show holds 9 cc = (condEven 8 cc == false) from rfl]
    generalize condEven 8 cc = b at *
    clear h0 h1
    go_enter Tryz.func178, Tryz.ntmps178
    go_wp2_with ((go_at_call 220; with_reducible refine (HE.out _).mono ?_; rintro e w1 ⟨rfl, hb⟩))
    go_ret
    exact ⟨by first | rfl | (cases b <;> rfl), hb⟩
  · as_aux_lemma =>
    have k1 : Go.bits .andNot .i64 10 1 = 10 := by decide
    have k2 : Go.bits .and .i64 10 1 = 0 := by decide
    have HE := Lib.hid (fun W => even_t 10 cc W)
    rw [show holds 10 cc = (condEven 10 cc == true) from rfl]
    generalize condEven 10 cc = b at *
    clear h0 h1
    go_enter Tryz.func178, Tryz.ntmps178
    go_wp2_with ((go_at_call 220; with_reducible refine (HE.out _).mono ?_; rintro e w1 ⟨rfl, hb⟩))
    go_ret
    exact ⟨by first | rfl | (cases b <;> rfl), hb⟩
  · as_aux_lemma =>
    have k1 : Go.bits .andNot .i64 11 1 = 10 := by decide
    have k2 : Go.bits .and .i64 11 1 = 1 := by decide
    have HE := Lib.hid (fun W => even_t 10 cc W)
    rw [show holds 11 cc = (condEven 10 cc == false) from rfl]
    generalize condEven 10 cc = b at *
    clear h0 h1
    go_enter Tryz.func178, Tryz.ntmps178
    go_wp2_with ((go_at_call 220; with_reducible refine (HE.out _).mono ?_; rintro e w1 ⟨rfl, hb⟩))
    go_ret
    exact ⟨by first | rfl | (cases b <;> rfl), hb⟩
  · as_aux_lemma =>
    have k1 : Go.bits .andNot .i64 12 1 = 12 := by decide
    have k2 : Go.bits .and .i64 12 1 = 0 := by decide
    have HE := Lib.hid (fun W => even_t 12 cc W)
    rw [show holds 12 cc = (condEven 12 cc == true) from rfl]
    generalize condEven 12 cc = b at *
    clear h0 h1
    go_enter Tryz.func178, Tryz.ntmps178
    go_wp2_with ((go_at_call 220; with_reducible refine (HE.out _).mono ?_; rintro e w1 ⟨rfl, hb⟩))
    go_ret
    exact ⟨by first | rfl | (cases b <;> rfl), hb⟩
  · as_aux_lemma =>
    have k1 : Go.bits .andNot .i64 13 1 = 12 := by decide
    have k2 : Go.bits .and .i64 13 1 = 1 := by decide
    have HE := Lib.hid (fun W => even_t 12 cc W)
    rw [show holds 13 cc = (condEven 12 cc == false) from rfl]
    generalize condEven 12 cc = b at *
    clear h0 h1
    go_enter Tryz.func178, Tryz.ntmps178
    go_wp2_with ((go_at_call 220; with_reducible refine (HE.out _).mono ?_; rintro e w1 ⟨rfl, hb⟩))
    go_ret
    exact ⟨by first | rfl | (cases b <;> rfl), hb⟩
  · as_aux_lemma =>
    have k1 : Go.bits .andNot .i64 14 1 = 14 := by decide
    have k2 : Go.bits .and .i64 14 1 = 0 := by decide
    have HE := Lib.hid (fun W => even_t 14 cc W)
    rw [show holds 14 cc = (condEven 14 cc == true) from rfl]
    generalize condEven 14 cc = b at *
    clear h0 h1
    go_enter Tryz.func178, Tryz.ntmps178
    go_wp2_with ((go_at_call 220; with_reducible refine (HE.out _).mono ?_; rintro e w1 ⟨rfl, hb⟩))
    go_ret
    exact ⟨by first | rfl | (cases b <;> rfl), hb⟩
  · as_aux_lemma =>
    have k1 : Go.bits .andNot .i64 15 1 = 14 := by decide
    have k2 : Go.bits .and .i64 15 1 = 1 := by decide
    have HE := Lib.hid (fun W => even_t 14 cc W)
    rw [show holds 15 cc = (condEven 14 cc == false) from rfl]
    generalize condEven 14 cc = b at *
    clear h0 h1
    go_enter Tryz.func178, Tryz.ntmps178
    go_wp2_with ((go_at_call 220; with_reducible refine (HE.out _).mono ?_; rintro e w1 ⟨rfl, hb⟩))
    go_ret
    exact ⟨by first | rfl | (cases b <;> rfl), hb⟩
set_option maxRecDepth 100000 in
set_option maxHeartbeats 4000000 in
theorem Direct_t (d l : UInt8) (w : World) :
    Calls Tryz.prog 197 #[.int .u8 (d.toNat : Int), .int .u8 (l.toNat : Int)] w fun e w' => e = .returned (.int .u16 ((word d l).toNat : Int)) ∧ w = w' := by
  go_enter Tryz.func197, Tryz.ntmps197
  go_wp2_with (go_at_call 161; refine (Word_t _ _ _).mono ?_; rintro e w1 ⟨rfl, rfl⟩)
  go_ret
  exact ⟨rfl, rfl⟩
def Sp.Post.cells (p : Post) : Array Value := #[.int .i64 p.kind, .int .i64 p.reg, .int .u16 (p.off.toNat : Int), .bool p.ind]
def Sp.Post.v (p : Post) : Value := .agg p.cells
def Sp.Regs.cells (r : Regs) : Array Value := #[.int .u8 (r.a.toNat : Int), .int .u8 (r.b.toNat : Int), .int .u8 (r.dp.toNat : Int), .int .u8 (r.cc.toNat : Int), .int .u16 (r.x.toNat : Int), .int .u16 (r.y.toNat : Int), .int .u16 (r.u.toNat : Int), .int .u16 (r.s.toNat : Int), .int .u16 (r.pc.toNat : Int)]
def Sp.Regs.v (r : Regs) : Value := .agg r.cells
attribute [local go_sem] Sp.Post.v Sp.Post.cells Sp.Regs.v Sp.Regs.cells
set_option maxRecDepth 100000 in
set_option maxHeartbeats 4000000 in
theorem Bytes_t (p : Post) (w : World) :
    Calls Tryz.prog 198 #[p.v] w fun e w' => e = .returned (.int .i64 p.bytes) ∧ Below w.heap.size w w' := by
  obtain ⟨k, rg, off, ind⟩ := p
  rcases (show k = 2 ∨ k = 11 ∨ k = 3 ∨ k = 12 ∨ k = 13 ∨ (k ≠ 2 ∧ k ≠ 11 ∧ k ≠ 3 ∧ k ≠ 12 ∧ k ≠ 13) from by omega) with rfl | rfl | rfl | rfl | rfl | ⟨h2, h11, h3, h12, h13⟩
  rotate_left 5
  · as_aux_lemma =>
    have e2 : (k == 2) = false := beq_eq_false_iff_ne.mpr h2
    have e11 : (k == 11) = false := beq_eq_false_iff_ne.mpr h11
    have e3 : (k == 3) = false := beq_eq_false_iff_ne.mpr h3
    have e12 : (k == 12) = false := beq_eq_false_iff_ne.mpr h12
    have e13 : (k == 13) = false := beq_eq_false_iff_ne.mpr h13
    rw [show (⟨k, rg, off, ind⟩ : Post).bytes = 0 from by simp [Post.bytes, h2, h11, h3, h12, h13]]
    go_enter Tryz.func198, Tryz.ntmps198
    go_wp2
    go_ret
    exact ⟨rfl, by repeat (first | exact Below.refl _ _ | apply below_alloc | apply Below.drew | (refine below_then ?_ (by assumption)))⟩
  all_goals
   as_aux_lemma =>
    go_enter Tryz.func198, Tryz.ntmps198
    go_wp2
    go_ret
    exact ⟨rfl, by repeat (first | exact Below.refl _ _ | apply below_alloc | apply Below.drew | (refine below_then ?_ (by assumption)))⟩
set_option maxRecDepth 100000 in
set_option maxHeartbeats 4000000 in
theorem Idle_t (p : Post) (w : World) :
    Calls Tryz.prog 231 #[p.v] w fun e w' => e = .returned (.int .i64 p.idle) ∧ Below w.heap.size w w' := by
  obtain ⟨k, rg, off, ind⟩ := p
  rcases (show k = 1 ∨ k = 4 ∨ k = 5 ∨ k = 3 ∨ k = 7 ∨ k = 9 ∨ k = 8 ∨ k = 10 ∨ k = 12 ∨ k = 6 ∨ (k ≠ 1 ∧ k ≠ 4 ∧ k ≠ 5 ∧ k ≠ 3 ∧ k ≠ 7 ∧ k ≠ 9 ∧ k ≠ 8 ∧ k ≠ 10 ∧ k ≠ 12 ∧ k ≠ 6) from by omega) with rfl | rfl | rfl | rfl | rfl | rfl | rfl | rfl | rfl | rfl | ⟨h1, h4, h5, h3, h7, h9, h8, h10, h12, h6⟩
  rotate_left 10
  · as_aux_lemma =>
    have e1 : (k == 1) = false := beq_eq_false_iff_ne.mpr h1
    have e4 : (k == 4) = false := beq_eq_false_iff_ne.mpr h4
    have e5 : (k == 5) = false := beq_eq_false_iff_ne.mpr h5
    have e3 : (k == 3) = false := beq_eq_false_iff_ne.mpr h3
    have e7 : (k == 7) = false := beq_eq_false_iff_ne.mpr h7
    have e9 : (k == 9) = false := beq_eq_false_iff_ne.mpr h9
    have e8 : (k == 8) = false := beq_eq_false_iff_ne.mpr h8
    have e10 : (k == 10) = false := beq_eq_false_iff_ne.mpr h10
    have e12 : (k == 12) = false := beq_eq_false_iff_ne.mpr h12
    have e6 : (k == 6) = false := beq_eq_false_iff_ne.mpr h6
    rw [show (⟨k, rg, off, ind⟩ : Post).idle = 1 from by simp [Post.idle, h1, h4, h5, h3, h7, h9, h8, h10, h12, h6]]
    go_enter Tryz.func231, Tryz.ntmps231
    go_wp2
    go_ret
    exact ⟨rfl, by repeat (first | exact Below.refl _ _ | apply below_alloc | apply Below.drew | (refine below_then ?_ (by assumption)))⟩
  all_goals
   as_aux_lemma =>
    go_enter Tryz.func231, Tryz.ntmps231
    go_wp2
    go_ret
    exact ⟨rfl, by repeat (first | exact Below.refl _ _ | apply below_alloc | apply Below.drew | (refine below_then ?_ (by assumption)))⟩
set_option maxRecDepth 100000 in
set_option maxHeartbeats 4000000 in
theorem offset_t (p : Post) (r : Regs) (v : UInt16) (w : World) :
    Calls Tryz.prog 234 #[p.v, r.v, .int .u16 (v.toNat : Int)] w fun e w' => e = .returned (.int .u16 ((offset p r v).toNat : Int)) ∧ Below w.heap.size w w' := by
  obtain ⟨k, rg, off, ind⟩ := p
  rcases (show k = 1 ∨ k = 2 ∨ k = 3 ∨ k = 11 ∨ k = 12 ∨ k = 13 ∨ k = 4 ∨ k = 5 ∨ k = 6 ∨ (k ≠ 1 ∧ k ≠ 2 ∧ k ≠ 3 ∧ k ≠ 11 ∧ k ≠ 12 ∧ k ≠ 13 ∧ k ≠ 4 ∧ k ≠ 5 ∧ k ≠ 6) from by omega) with rfl | rfl | rfl | rfl | rfl | rfl | rfl | rfl | rfl | ⟨h1, h2, h3, h11, h12, h13, h4, h5, h6⟩
  rotate_left 9
  · as_aux_lemma =>
    have e1 : (k == 1) = false := beq_eq_false_iff_ne.mpr h1
    have e2 : (k == 2) = false := beq_eq_false_iff_ne.mpr h2
    have e3 : (k == 3) = false := beq_eq_false_iff_ne.mpr h3
    have e11 : (k == 11) = false := beq_eq_false_iff_ne.mpr h11
    have e12 : (k == 12) = false := beq_eq_false_iff_ne.mpr h12
    have e13 : (k == 13) = false := beq_eq_false_iff_ne.mpr h13
    have e4 : (k == 4) = false := beq_eq_false_iff_ne.mpr h4
    have e5 : (k == 5) = false := beq_eq_false_iff_ne.mpr h5
    have e6 : (k == 6) = false := beq_eq_false_iff_ne.mpr h6
    rw [show offset ⟨k, rg, off, ind⟩ r v = 0 from by simp [offset, h1, h2, h3, h11, h12, h13, h4, h5, h6]]
    go_enter Tryz.func234, Tryz.ntmps234
    go_wp2
    go_ret
    exact ⟨rfl, by repeat (first | exact Below.refl _ _ | apply below_alloc | apply Below.drew | (refine below_then ?_ (by assumption)))⟩
  all_goals
   as_aux_lemma =>
    go_enter Tryz.func234, Tryz.ntmps234
    go_wp2_with (first | (go_at_call 196; refine (Sign_t _ _).mono ?_; rintro e w1 ⟨rfl, rfl⟩) | (go_at_call 161; refine (Word_t _ _ _).mono ?_; rintro e w1 ⟨rfl, rfl⟩))
    go_ret
    exact ⟨rfl, by repeat (first | exact Below.refl _ _ | apply below_alloc | apply Below.drew | (refine below_then ?_ (by assumption)))⟩
end Go.Proofs.YtkdaphkpllgmbaaGreat

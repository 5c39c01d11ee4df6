/-
  Contracts of the law's own text of a record, and of its fixed fact.
-/
import Derived.Test.YtgebopmiefgdoaaRecText2
import Derived.Test.YtgebopmiefgdoaaDigit2
namespace Go.Proofs.Ytgebopmiefgdoaa
open Go.RowKit
theorem aslvb (k : Nat) (h : k < 5) : (ByteArray.mk #[65, 83, 76, 86, 66]).extract k (k + 1) = ⟨#[#[65, 83, 76, 86, 66].getD k 0]⟩ := by
  have : ∀ k : Fin 5, (ByteArray.mk #[65, 83, 76, 86, 66]).extract k.val (k.val + 1) = ⟨#[#[65, 83, 76, 86, 66].getD k.val 0]⟩ := by decide +kernel
  exact this ⟨k, h⟩
theorem Digits4_any (a : Nat) (w : World) (ha : a < 65536) :
    Calls Try.prog 76 #[.int .u64 a, .int .u64 16, .int .i64 4] w fun e w' => e = .returned (.string ⟨#[dig (a / 16 ^ 3 % 16), dig (a / 16 ^ 2 % 16), dig (a / 16 ^ 1 % 16), dig (a / 16 ^ 0 % 16)]⟩) ∧ w = w' := by
  have h := Digits16_any a 4 16 w (by omega) (by omega) (by omega) (by omega) (by omega) (by omega)
  have e : kd 16 a (4 : Int).toNat = 4 := kd4 a ha
  rw [e] at h
  exact h
theorem kd2 (n : Nat) (h : n < 256) : kd 16 n 2 = 2 := by
  have : ∀ n : Fin 256, kd 16 n.val 2 = 2 := by decide +kernel
  exact this ⟨n, h⟩
theorem Digits2_any (d : Nat) (w : World) (hd : d < 256) :
    Calls Try.prog 76 #[.int .u64 d, .int .u64 16, .int .i64 2] w fun e w' => e = .returned (.string ⟨#[dig (d / 16), dig (d % 16)]⟩) ∧ w = w' := by
  have h := Digits16_any d 2 16 w (by omega) (by omega) (by omega) (by omega) (by omega) (by omega)
  have e : kd 16 d (2 : Int).toNat = 2 := kd2 d hd
  rw [e] at h
  have e2 : ndig 16 2 d = [dig (d / 16), dig (d % 16)] := by
    show [dig (d / 16 ^ 1 % 16), dig (d / 16 ^ 0 % 16)] = _
    rw [show d / 16 ^ 1 % 16 = d / 16 by omega, show d / 16 ^ 0 % 16 = d % 16 by omega]
  rw [e2] at h
  exact h
/-- The law's text behind k of its five letters. -/
def txtK (x0 x1 x2 x3 y0 y1 : UInt8) (b0 b1 b2 b3 b4 b5 : Bool) (k : Nat) : List UInt8 := [x0, x1, x2, x3, 32, y0, y1, 32, sg b0 82 87, 32] ++ [sg b1 65 45, sg b2 83 45, sg b3 76 45, sg b4 86 45, sg b5 66 45].take k
theorem txtK_len (x0 x1 x2 x3 y0 y1 : UInt8) (b0 b1 b2 b3 b4 b5 : Bool) : (txtK x0 x1 x2 x3 y0 y1 b0 b1 b2 b3 b4 b5 5).length = 15 := rfl
set_option maxRecDepth 100000 in
set_option maxHeartbeats 4000000 in
theorem Text26_any (a d : Nat) (b0 b1 b2 b3 b4 b5 b6 : Bool) (w : World) (ha : a < 65536) (hd : d < 256) :
    Calls Try.prog 82 #[.agg #[.int .u16 a, .int .u8 d, .bool b0, .bool b1, .bool b2, .bool b3, .bool b4, .bool b5, .bool b6]] w fun e w' => e = .returned (.string ⟨(recL a d b0 b1 b2 b3 b4 b5 b6).toArray⟩) ∧ Below w.heap.size w w' := by
  have H4 : Hid (∀ W : World, Calls Try.prog 76 #[.int .u64 a, .int .u64 16, .int .i64 4] W fun e w' => e = .returned (.string ⟨#[dig (a / 16 ^ 3 % 16), dig (a / 16 ^ 2 % 16), dig (a / 16 ^ 1 % 16), dig (a / 16 ^ 0 % 16)]⟩) ∧ W = w') := fun W => Digits4_any a W ha
  have H2 : Hid (∀ W : World, Calls Try.prog 76 #[.int .u64 d, .int .u64 16, .int .i64 2] W fun e w' => e = .returned (.string ⟨#[dig (d / 16), dig (d % 16)]⟩) ∧ W = w') := fun W => Digits2_any d W hd
  have hwr : IntKind.u64.wrap (a : Int) = a := by rw [IntKind.wrap_u64]; omega
  have hwr2 : IntKind.u64.wrap (d : Int) = d := by rw [IntKind.wrap_u64]; omega
  unfold recL
  generalize dig (a / 16 ^ 3 % 16) = x0 at *
  generalize dig (a / 16 ^ 2 % 16) = x1 at *
  generalize dig (a / 16 ^ 1 % 16) = x2 at *
  generalize dig (a / 16 ^ 0 % 16) = x3 at *
  generalize dig (d / 16) = y0 at *
  generalize dig (d % 16) = y1 at *
  go_enter Try.func82, Try.ntmps82
  go_wp2_with fail
  go_quiet ((go_at_call 76; first | (with_reducible refine (H4.out _).mono ?_; rintro e w' ⟨rfl, rfl⟩; exact ⟨rfl, _, rfl⟩) | (with_reducible refine (H2.out _).mono ?_; rintro e w' ⟨rfl, rfl⟩; exact ⟨rfl, _, rfl⟩)))
  clear H4 H2 hwr hwr2
  cases b0
  · go_wp2
    go_loop [3, 5] (fun s i => ∃ k : Nat, k ≤ 5 ∧ i = .int .i64 k ∧ s = .string ⟨(txtK x0 x1 x2 x3 y0 y1 false b1 b2 b3 b4 b5 k).toArray⟩) (fun _ i => 5 - (intOf i).toNat)
    case atStart => exact ⟨0, by omega, rfl, congrArg Value.string (by apply ByteArray.ext; simp [txtK, sg])⟩
    case round =>
      obtain ⟨k, hk, rfl, rfl⟩ := hrel
      by_cases h5 : k < 5
      · have five : k = 0 ∨ k = 1 ∨ k = 2 ∨ k = 3 ∨ k = 4 := by omega
        rcases five with rfl | rfl | rfl | rfl | rfl
        · have hx := aslvb 0 (by omega)
          cases b1
          all_goals
            go_wp2
            go_round
            case rel => exact ⟨1, by omega, rfl, congrArg Value.string (by first | (apply ByteArray.ext; simp [txtK, sg]; done) | (rw [show (ByteArray.mk #[65, 83, 76, 86, 66]).extract 0 1 = _ from hx]; apply ByteArray.ext; simp [txtK, sg]))⟩
            case measure => simp [intOf]
        · have hx := aslvb 1 (by omega)
          cases b2
          all_goals
            go_wp2
            go_round
            case rel => exact ⟨2, by omega, rfl, congrArg Value.string (by first | (apply ByteArray.ext; simp [txtK, sg]; done) | (rw [show (ByteArray.mk #[65, 83, 76, 86, 66]).extract 1 2 = _ from hx]; apply ByteArray.ext; simp [txtK, sg]))⟩
            case measure => simp [intOf]
        · have hx := aslvb 2 (by omega)
          cases b3
          all_goals
            go_wp2
            go_round
            case rel => exact ⟨3, by omega, rfl, congrArg Value.string (by first | (apply ByteArray.ext; simp [txtK, sg]; done) | (rw [show (ByteArray.mk #[65, 83, 76, 86, 66]).extract 2 3 = _ from hx]; apply ByteArray.ext; simp [txtK, sg]))⟩
            case measure => simp [intOf]
        · have hx := aslvb 3 (by omega)
          cases b4
          all_goals
            go_wp2
            go_round
            case rel => exact ⟨4, by omega, rfl, congrArg Value.string (by first | (apply ByteArray.ext; simp [txtK, sg]; done) | (rw [show (ByteArray.mk #[65, 83, 76, 86, 66]).extract 3 4 = _ from hx]; apply ByteArray.ext; simp [txtK, sg]))⟩
            case measure => simp [intOf]
        · have hx := aslvb 4 (by omega)
          cases b5
          all_goals
            go_wp2
            go_round
            case rel => exact ⟨5, by omega, rfl, congrArg Value.string (by first | (apply ByteArray.ext; simp [txtK, sg]; done) | (rw [show (ByteArray.mk #[65, 83, 76, 86, 66]).extract 4 5 = _ from hx]; apply ByteArray.ext; simp [txtK, sg]))⟩
            case measure => simp [intOf]
      · obtain rfl : k = 5 := by omega
        have hlen := txtK_len x0 x1 x2 x3 y0 y1 false b1 b2 b3 b4 b5
        cases b6
        all_goals
          go_wp2
          go_ret
          refine ⟨congrArg (fun s => Ending.returned (.string s)) (by apply ByteArray.ext; simp [txtK, txt, sg]), ?_⟩
          repeat (first | exact Below.refl _ _ | apply below_alloc | apply below_drewN)
  · go_wp2
    go_loop [3, 5] (fun s i => ∃ k : Nat, k ≤ 5 ∧ i = .int .i64 k ∧ s = .string ⟨(txtK x0 x1 x2 x3 y0 y1 true b1 b2 b3 b4 b5 k).toArray⟩) (fun _ i => 5 - (intOf i).toNat)
    case atStart => exact ⟨0, by omega, rfl, congrArg Value.string (by apply ByteArray.ext; simp [txtK, sg])⟩
    case round =>
      obtain ⟨k, hk, rfl, rfl⟩ := hrel
      by_cases h5 : k < 5
      · have five : k = 0 ∨ k = 1 ∨ k = 2 ∨ k = 3 ∨ k = 4 := by omega
        rcases five with rfl | rfl | rfl | rfl | rfl
        · have hx := aslvb 0 (by omega)
          cases b1
          all_goals
            go_wp2
            go_round
            case rel => exact ⟨1, by omega, rfl, congrArg Value.string (by first | (apply ByteArray.ext; simp [txtK, sg]; done) | (rw [show (ByteArray.mk #[65, 83, 76, 86, 66]).extract 0 1 = _ from hx]; apply ByteArray.ext; simp [txtK, sg]))⟩
            case measure => simp [intOf]
        · have hx := aslvb 1 (by omega)
          cases b2
          all_goals
            go_wp2
            go_round
            case rel => exact ⟨2, by omega, rfl, congrArg Value.string (by first | (apply ByteArray.ext; simp [txtK, sg]; done) | (rw [show (ByteArray.mk #[65, 83, 76, 86, 66]).extract 1 2 = _ from hx]; apply ByteArray.ext; simp [txtK, sg]))⟩
            case measure => simp [intOf]
        · have hx := aslvb 2 (by omega)
          cases b3
          all_goals
            go_wp2
            go_round
            case rel => exact ⟨3, by omega, rfl, congrArg Value.string (by first | (apply ByteArray.ext; simp [txtK, sg]; done) | (rw [show (ByteArray.mk #[65, 83, 76, 86, 66]).extract 2 3 = _ from hx]; apply ByteArray.ext; simp [txtK, sg]))⟩
            case measure => simp [intOf]
        · have hx := aslvb 3 (by omega)
          cases b4
          all_goals
            go_wp2
            go_round
            case rel => exact ⟨4, by omega, rfl, congrArg Value.string (by first | (apply ByteArray.ext; simp [txtK, sg]; done) | (rw [show (ByteArray.mk #[65, 83, 76, 86, 66]).extract 3 4 = _ from hx]; apply ByteArray.ext; simp [txtK, sg]))⟩
            case measure => simp [intOf]
        · have hx := aslvb 4 (by omega)
          cases b5
          all_goals
            go_wp2
            go_round
            case rel => exact ⟨5, by omega, rfl, congrArg Value.string (by first | (apply ByteArray.ext; simp [txtK, sg]; done) | (rw [show (ByteArray.mk #[65, 83, 76, 86, 66]).extract 4 5 = _ from hx]; apply ByteArray.ext; simp [txtK, sg]))⟩
            case measure => simp [intOf]
      · obtain rfl : k = 5 := by omega
        have hlen := txtK_len x0 x1 x2 x3 y0 y1 true b1 b2 b3 b4 b5
        cases b6
        all_goals
          go_wp2
          go_ret
          refine ⟨congrArg (fun s => Ending.returned (.string s)) (by apply ByteArray.ext; simp [txtK, txt, sg]), ?_⟩
          repeat (first | exact Below.refl _ _ | apply below_alloc | apply below_drewN)
theorem alive26 (w : World) :
    Calls Try.prog 83 #[] w fun e w' => e = .returned (.bool true) ∧ Below w.heap.size w w' := by
  have HT : Hid (∀ W : World, Calls Try.prog 96 #[.agg #[.int .u16 65534, .int .u8 18, .bool true, .bool false, .bool true, .bool false, .bool true, .bool true, .bool true]] W fun e w' => e = .returned (.string ⟨#[70, 70, 70, 69, 32, 49, 50, 32, 82, 32, 45, 83, 45, 86, 66, 32, 77]⟩) ∧ Below W.heap.size W w') := fun W => by
    have h := RText_any 65534 18 true false true false true true true W (by omega) (by omega)
    have e : recL 65534 18 true false true false true true true = [70, 70, 70, 69, 32, 49, 50, 32, 82, 32, 45, 83, 45, 86, 66, 32, 77] := by decide +kernel
    rw [e] at h
    exact h
  go_enter Try.func83, Try.ntmps83
  go_wp2_with (go_at_call 96; with_reducible refine (HT.out _).mono ?_; rintro e w1 ⟨rfl, hb⟩)
  go_ret
  exact ⟨rfl, hb⟩
end Go.Proofs.Ytgebopmiefgdoaa

/-
  Contract of the law's own bytes of a record.
-/
import Derived.Test.YtgebopmiefgdoaaRecGet
namespace Go.Proofs.Ytgebopmiefgdoaa
open Go.RowKit
def bn (b : Bool) (n : Nat) : Nat := if b then n else 0
def lvlN (b0 b1 b2 b3 b4 b5 b6 : Bool) : Nat := bn b0 1 + bn b1 2 + bn b2 4 + bn b3 8 + bn b4 16 + bn b5 32 + bn b6 64
def putL (a d : Nat) (b0 b1 b2 b3 b4 b5 b6 : Bool) : List UInt8 := [UInt8.ofNat (a / 256), UInt8.ofNat (a % 256), UInt8.ofNat d, UInt8.ofNat (lvlN b0 b1 b2 b3 b4 b5 b6)]
theorem lvlN_lt (b0 b1 b2 b3 b4 b5 b6 : Bool) : lvlN b0 b1 b2 b3 b4 b5 b6 < 128 := by
  cases b0 <;> cases b1 <;> cases b2 <;> cases b3 <;> cases b4 <;> cases b5 <;> cases b6 <;> decide
set_option maxRecDepth 100000 in
set_option maxHeartbeats 4000000 in
theorem Put26_any (a d : Nat) (b0 b1 b2 b3 b4 b5 b6 : Bool) (w : World) (ha : a < 65536) (hd : d < 256) :
    Calls Try.prog 84 #[.agg #[.int .u16 a, .int .u8 d, .bool b0, .bool b1, .bool b2, .bool b3, .bool b4, .bool b5, .bool b6]] w fun e w' => ∃ g, e = .returned (.slice (some ⟨g, 0, none⟩) 4 4) ∧ Reads w' w'.heap.size 1 (some ⟨g, 0, none⟩) 4 (bytesV (putL a d b0 b1 b2 b3 b4 b5 b6)) ∧ Below w.heap.size w w' := by
  have q0 : ((UInt8.ofNat (a / 256)).toNat : Int) = (a : Int) / 256 := by rw [UInt8.toNat_ofNat']; omega
  have q1 : ((UInt8.ofNat (a % 256)).toNat : Int) = (a : Int) % 256 := by rw [UInt8.toNat_ofNat']; omega
  have q2 : ((UInt8.ofNat d).toNat : Int) = (d : Int) := by rw [UInt8.toNat_ofNat']; omega
  have hln := lvlN_lt b0 b1 b2 b3 b4 b5 b6
  have q3 : ((UInt8.ofNat (lvlN b0 b1 b2 b3 b4 b5 b6)).toNat : Int) = (lvlN b0 b1 b2 b3 b4 b5 b6 : Int) := by rw [UInt8.toNat_ofNat']; omega
  have HQ := Lib.hid (And.intro q0 (And.intro q1 (And.intro q2 q3)))
  have HLN := Lib.hid hln
  clear q0 q1 q2 q3 hln
  go_enter Try.func84, Try.ntmps84
  go_wp2
  go_loop [4, 5, 6] (fun n v i => ∃ k : Nat, k ≤ 7 ∧ i = .int .i64 k ∧ v = .int .i64 ((2 ^ k : Nat) : Int) ∧ n = .int .i64 (lvlN (decide (0 < k) && b0) (decide (1 < k) && b1) (decide (2 < k) && b2) (decide (3 < k) && b3) (decide (4 < k) && b4) (decide (5 < k) && b5) (decide (6 < k) && b6))) (fun _ _ i => 7 - (intOf i).toNat)
  case atStart => exact ⟨0, by omega, rfl, rfl, rfl⟩
  case round =>
    obtain ⟨k, hk, rfl, rfl, rfl⟩ := hrel
    by_cases h7 : k < 7
    · have seven : k = 0 ∨ k = 1 ∨ k = 2 ∨ k = 3 ∨ k = 4 ∨ k = 5 ∨ k = 6 := by omega
      rcases seven with rfl | rfl | rfl | rfl | rfl | rfl | rfl
      · have HV : Hid (lvlN (decide (0 < 0) && b0) (decide (1 < 0) && b1) (decide (2 < 0) && b2) (decide (3 < 0) && b3) (decide (4 < 0) && b4) (decide (5 < 0) && b5) (decide (6 < 0) && b6) + bn b0 1 = lvlN (decide (0 < 1) && b0) (decide (1 < 1) && b1) (decide (2 < 1) && b2) (decide (3 < 1) && b3) (decide (4 < 1) && b4) (decide (5 < 1) && b5) (decide (6 < 1) && b6)) := by simp [Hid, lvlN, bn]
        have hm := lvlN_lt (decide (0 < 0) && b0) (decide (1 < 0) && b1) (decide (2 < 0) && b2) (decide (3 < 0) && b3) (decide (4 < 0) && b4) (decide (5 < 0) && b5) (decide (6 < 0) && b6)
        generalize lvlN (decide (0 < 0) && b0) (decide (1 < 0) && b1) (decide (2 < 0) && b2) (decide (3 < 0) && b3) (decide (4 < 0) && b4) (decide (5 < 0) && b5) (decide (6 < 0) && b6) = q at *
        cases b0
        all_goals
          go_wp2
          go_round
          case rel => exact ⟨1, by omega, rfl, rfl, congrArg (Value.int .i64) (by have h := HV.out; simp only [bn, if_true, Bool.false_eq_true, if_false] at h; omega)⟩
          case measure => simp [intOf]
      · have HV : Hid (lvlN (decide (0 < 1) && b0) (decide (1 < 1) && b1) (decide (2 < 1) && b2) (decide (3 < 1) && b3) (decide (4 < 1) && b4) (decide (5 < 1) && b5) (decide (6 < 1) && b6) + bn b1 2 = lvlN (decide (0 < 2) && b0) (decide (1 < 2) && b1) (decide (2 < 2) && b2) (decide (3 < 2) && b3) (decide (4 < 2) && b4) (decide (5 < 2) && b5) (decide (6 < 2) && b6)) := by simp [Hid, lvlN, bn]
        have hm := lvlN_lt (decide (0 < 1) && b0) (decide (1 < 1) && b1) (decide (2 < 1) && b2) (decide (3 < 1) && b3) (decide (4 < 1) && b4) (decide (5 < 1) && b5) (decide (6 < 1) && b6)
        generalize lvlN (decide (0 < 1) && b0) (decide (1 < 1) && b1) (decide (2 < 1) && b2) (decide (3 < 1) && b3) (decide (4 < 1) && b4) (decide (5 < 1) && b5) (decide (6 < 1) && b6) = q at *
        cases b1
        all_goals
          go_wp2
          go_round
          case rel => exact ⟨2, by omega, rfl, rfl, congrArg (Value.int .i64) (by have h := HV.out; simp only [bn, if_true, Bool.false_eq_true, if_false] at h; omega)⟩
          case measure => simp [intOf]
      · have HV : Hid (lvlN (decide (0 < 2) && b0) (decide (1 < 2) && b1) (decide (2 < 2) && b2) (decide (3 < 2) && b3) (decide (4 < 2) && b4) (decide (5 < 2) && b5) (decide (6 < 2) && b6) + bn b2 4 = lvlN (decide (0 < 3) && b0) (decide (1 < 3) && b1) (decide (2 < 3) && b2) (decide (3 < 3) && b3) (decide (4 < 3) && b4) (decide (5 < 3) && b5) (decide (6 < 3) && b6)) := by simp [Hid, lvlN, bn]
        have hm := lvlN_lt (decide (0 < 2) && b0) (decide (1 < 2) && b1) (decide (2 < 2) && b2) (decide (3 < 2) && b3) (decide (4 < 2) && b4) (decide (5 < 2) && b5) (decide (6 < 2) && b6)
        generalize lvlN (decide (0 < 2) && b0) (decide (1 < 2) && b1) (decide (2 < 2) && b2) (decide (3 < 2) && b3) (decide (4 < 2) && b4) (decide (5 < 2) && b5) (decide (6 < 2) && b6) = q at *
        cases b2
        all_goals
          go_wp2
          go_round
          case rel => exact ⟨3, by omega, rfl, rfl, congrArg (Value.int .i64) (by have h := HV.out; simp only [bn, if_true, Bool.false_eq_true, if_false] at h; omega)⟩
          case measure => simp [intOf]
      · have HV : Hid (lvlN (decide (0 < 3) && b0) (decide (1 < 3) && b1) (decide (2 < 3) && b2) (decide (3 < 3) && b3) (decide (4 < 3) && b4) (decide (5 < 3) && b5) (decide (6 < 3) && b6) + bn b3 8 = lvlN (decide (0 < 4) && b0) (decide (1 < 4) && b1) (decide (2 < 4) && b2) (decide (3 < 4) && b3) (decide (4 < 4) && b4) (decide (5 < 4) && b5) (decide (6 < 4) && b6)) := by simp [Hid, lvlN, bn]
        have hm := lvlN_lt (decide (0 < 3) && b0) (decide (1 < 3) && b1) (decide (2 < 3) && b2) (decide (3 < 3) && b3) (decide (4 < 3) && b4) (decide (5 < 3) && b5) (decide (6 < 3) && b6)
        generalize lvlN (decide (0 < 3) && b0) (decide (1 < 3) && b1) (decide (2 < 3) && b2) (decide (3 < 3) && b3) (decide (4 < 3) && b4) (decide (5 < 3) && b5) (decide (6 < 3) && b6) = q at *
        cases b3
        all_goals
          go_wp2
          go_round
          case rel => exact ⟨4, by omega, rfl, rfl, congrArg (Value.int .i64) (by have h := HV.out; simp only [bn, if_true, Bool.false_eq_true, if_false] at h; omega)⟩
          case measure => simp [intOf]
      · have HV : Hid (lvlN (decide (0 < 4) && b0) (decide (1 < 4) && b1) (decide (2 < 4) && b2) (decide (3 < 4) && b3) (decide (4 < 4) && b4) (decide (5 < 4) && b5) (decide (6 < 4) && b6) + bn b4 16 = lvlN (decide (0 < 5) && b0) (decide (1 < 5) && b1) (decide (2 < 5) && b2) (decide (3 < 5) && b3) (decide (4 < 5) && b4) (decide (5 < 5) && b5) (decide (6 < 5) && b6)) := by simp [Hid, lvlN, bn]
        have hm := lvlN_lt (decide (0 < 4) && b0) (decide (1 < 4) && b1) (decide (2 < 4) && b2) (decide (3 < 4) && b3) (decide (4 < 4) && b4) (decide (5 < 4) && b5) (decide (6 < 4) && b6)
        generalize lvlN (decide (0 < 4) && b0) (decide (1 < 4) && b1) (decide (2 < 4) && b2) (decide (3 < 4) && b3) (decide (4 < 4) && b4) (decide (5 < 4) && b5) (decide (6 < 4) && b6) = q at *
        cases b4
        all_goals
          go_wp2
          go_round
          case rel => exact ⟨5, by omega, rfl, rfl, congrArg (Value.int .i64) (by have h := HV.out; simp only [bn, if_true, Bool.false_eq_true, if_false] at h; omega)⟩
          case measure => simp [intOf]
      · have HV : Hid (lvlN (decide (0 < 5) && b0) (decide (1 < 5) && b1) (decide (2 < 5) && b2) (decide (3 < 5) && b3) (decide (4 < 5) && b4) (decide (5 < 5) && b5) (decide (6 < 5) && b6) + bn b5 32 = lvlN (decide (0 < 6) && b0) (decide (1 < 6) && b1) (decide (2 < 6) && b2) (decide (3 < 6) && b3) (decide (4 < 6) && b4) (decide (5 < 6) && b5) (decide (6 < 6) && b6)) := by simp [Hid, lvlN, bn]
        have hm := lvlN_lt (decide (0 < 5) && b0) (decide (1 < 5) && b1) (decide (2 < 5) && b2) (decide (3 < 5) && b3) (decide (4 < 5) && b4) (decide (5 < 5) && b5) (decide (6 < 5) && b6)
        generalize lvlN (decide (0 < 5) && b0) (decide (1 < 5) && b1) (decide (2 < 5) && b2) (decide (3 < 5) && b3) (decide (4 < 5) && b4) (decide (5 < 5) && b5) (decide (6 < 5) && b6) = q at *
        cases b5
        all_goals
          go_wp2
          go_round
          case rel => exact ⟨6, by omega, rfl, rfl, congrArg (Value.int .i64) (by have h := HV.out; simp only [bn, if_true, Bool.false_eq_true, if_false] at h; omega)⟩
          case measure => simp [intOf]
      · have HV : Hid (lvlN (decide (0 < 6) && b0) (decide (1 < 6) && b1) (decide (2 < 6) && b2) (decide (3 < 6) && b3) (decide (4 < 6) && b4) (decide (5 < 6) && b5) (decide (6 < 6) && b6) + bn b6 64 = lvlN (decide (0 < 7) && b0) (decide (1 < 7) && b1) (decide (2 < 7) && b2) (decide (3 < 7) && b3) (decide (4 < 7) && b4) (decide (5 < 7) && b5) (decide (6 < 7) && b6)) := by simp [Hid, lvlN, bn]
        have hm := lvlN_lt (decide (0 < 6) && b0) (decide (1 < 6) && b1) (decide (2 < 6) && b2) (decide (3 < 6) && b3) (decide (4 < 6) && b4) (decide (5 < 6) && b5) (decide (6 < 6) && b6)
        generalize lvlN (decide (0 < 6) && b0) (decide (1 < 6) && b1) (decide (2 < 6) && b2) (decide (3 < 6) && b3) (decide (4 < 6) && b4) (decide (5 < 6) && b5) (decide (6 < 6) && b6) = q at *
        cases b6
        all_goals
          go_wp2
          go_round
          case rel => exact ⟨7, by omega, rfl, rfl, congrArg (Value.int .i64) (by have h := HV.out; simp only [bn, if_true, Bool.false_eq_true, if_false] at h; omega)⟩
          case measure => simp [intOf]
    · obtain rfl : k = 7 := by omega
      have hm : (lvlN (decide (0 < 7) && b0) (decide (1 < 7) && b1) (decide (2 < 7) && b2) (decide (3 < 7) && b3) (decide (4 < 7) && b4) (decide (5 < 7) && b5) (decide (6 < 7) && b6)) = lvlN b0 b1 b2 b3 b4 b5 b6 := rfl
      rw [hm]
      clear hm
      have hln := HLN.out
      generalize hqe : lvlN b0 b1 b2 b3 b4 b5 b6 = q at *
      have HQE := Lib.hid hqe
      clear hqe
      go_wp2
      have hq := HQ.out
      go_ret
      have hbv : bytesV (putL a d b0 b1 b2 b3 b4 b5 b6) = [.int .u8 ((a : Int) / 256), .int .u8 ((a : Int) % 256), .int .u8 (d : Int), .int .u8 (q : Int)] := by
        simp only [bytesV, putL, List.map_cons, List.map_nil, HQE.out, hq.1, hq.2.1, hq.2.2.1, hq.2.2.2]
      rw [hbv]
      refine ⟨w.heap.size + 1 + 1, rfl, ?_, by repeat (first | exact Below.refl _ _ | apply below_alloc)⟩
      have h := Reads.new1 ((w.alloc (.cells #[.int .u16 a, .int .u8 d, .bool b0, .bool b1, .bool b2, .bool b3, .bool b4, .bool b5, .bool b6] 64)).alloc (.cells #[.bool b0, .bool b1, .bool b2, .bool b3, .bool b4, .bool b5, .bool b6] 155)) 5 #[.int .u8 ((a : Int) / 256), .int .u8 ((a : Int) % 256), .int .u8 (d : Int), .int .u8 (q : Int)] 4 (w.heap.size + 3) rfl (by simp)
      have e1 : ((w.alloc (.cells #[.int .u16 a, .int .u8 d, .bool b0, .bool b1, .bool b2, .bool b3, .bool b4, .bool b5, .bool b6] 64)).alloc (.cells #[.bool b0, .bool b1, .bool b2, .bool b3, .bool b4, .bool b5, .bool b6] 155)).heap.size = w.heap.size + 1 + 1 := by simp
      rw [e1] at h
      exact h.more (by simp)
/-- A record's bytes, and back. -/
theorem putL_recOf (h l d f : UInt8) (hf : f.toNat ≤ 127) : putL (256 * (h.toNat : Int) + (l.toNat : Int)).toNat (d.toNat : Int).toNat (lvl f 0) (lvl f 1) (lvl f 2) (lvl f 3) (lvl f 4) (lvl f 5) (lvl f 6) = [h, l, d, f] := by
  have h0 := h.toNat_lt
  have l0 := l.toNat_lt
  have e1 : (256 * (h.toNat : Int) + (l.toNat : Int)).toNat = 256 * h.toNat + l.toNat := by omega
  have e2 : (256 * h.toNat + l.toNat) / 256 = h.toNat := by omega
  have e3 : (256 * h.toNat + l.toNat) % 256 = l.toNat := by omega
  have e4 : ∀ n : Fin 128, lvlN (n.val / 2 ^ 0 % 2 == 1) (n.val / 2 ^ 1 % 2 == 1) (n.val / 2 ^ 2 % 2 == 1) (n.val / 2 ^ 3 % 2 == 1) (n.val / 2 ^ 4 % 2 == 1) (n.val / 2 ^ 5 % 2 == 1) (n.val / 2 ^ 6 % 2 == 1) = n.val := by decide +kernel
  have e5 : lvlN (lvl f 0) (lvl f 1) (lvl f 2) (lvl f 3) (lvl f 4) (lvl f 5) (lvl f 6) = f.toNat := e4 ⟨f.toNat, by omega⟩
  unfold putL
  rw [e1, e2, e3, e5, Int.toNat_natCast]
  simp
end Go.Proofs.Ytgebopmiefgdoaa

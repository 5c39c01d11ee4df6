/-
  Contracts of the digit package and of its reference, for every argument: a digit's sign and value, a number's digits, the number of a text.
-/
import Derived.Test.YtgebopmiefgdoaaBase
import Derived.Test.YtgebopmiefgdoaaDigitLib
import Derived.WalkKit
import Derived.WalkSpells
import Derived.KernelRfl
import Derived.Deep.Draws
import Derived.Deep.QuietTactic
import Derived.BigQuiet
import Derived.RowKit3
import Derived.Lib.Hide
import Derived.Laws.BitsLemmas
namespace Go.Proofs.Ytgebopmiefgdoaa
open Go.RowKit
theorem sign_any (n : Int) (w : World) (h0 : 0 ≤ n) (h1 : n < 16) :
    Calls Try.prog 106 #[.int .u8 n] w fun e w' => e = .returned (.int .u8 (dig n.toNat).toNat) ∧ w = w' := by
  have hd := dig_toNat n.toNat (by omega)
  by_cases h : n < 10
  · rw [if_pos (by omega)] at hd
    have HD := Lib.hid hd
    clear hd
    go_enter Try.func106, Try.ntmps106
    go_wp2
    go_ret
    exact ⟨ret_int (by rw [HD.out]; omega), rfl⟩
  · rw [if_neg (by omega)] at hd
    have HD := Lib.hid hd
    clear hd
    go_enter Try.func106, Try.ntmps106
    go_wp2
    go_ret
    exact ⟨ret_int (by rw [HD.out]; omega), rfl⟩
theorem value_any (c : Nat) (w : World) (h1 : c < 256) :
    Calls Try.prog 107 #[.int .u8 c] w fun e w' => e = .returned (.tuple #[.int .u8 (if valN c < 16 then (valN c : Int) else 0), .bool (decide (valN c < 16))]) ∧ w = w' := by
  by_cases d1 : 48 ≤ c ∧ c ≤ 57
  · obtain ⟨d2, d3⟩ := d1
    have hv : valN c = c - 48 := by unfold valN; rw [if_pos ⟨d2, d3⟩]
    have hv2 : (if valN c < 16 then (valN c : Int) else 0) = (c : Int) - 48 := by rw [hv]; rw [if_pos (by omega)]; omega
    rw [hv2, hv, decide_eq_true (by omega : c - 48 < 16)]
    clear hv hv2
    go_enter Try.func107, Try.ntmps107
    go_wp2
    go_ret2
    exact ⟨ret2_int (by omega) rfl, rfl⟩
  · by_cases e1 : 65 ≤ c ∧ c ≤ 70
    · obtain ⟨e2, e3⟩ := e1
      have hv : valN c = c - 55 := by unfold valN; rw [if_neg d1, if_pos ⟨e2, e3⟩]
      have hv2 : (if valN c < 16 then (valN c : Int) else 0) = (c : Int) - 55 := by rw [hv]; rw [if_pos (by omega)]; omega
      rw [hv2, hv, decide_eq_true (by omega : c - 55 < 16)]
      clear hv hv2
      go_enter Try.func107, Try.ntmps107
      go_wp2
      go_ret2
      exact ⟨ret2_int (by omega) rfl, rfl⟩
    · by_cases f1 : 97 ≤ c ∧ c ≤ 102
      · obtain ⟨f2, f3⟩ := f1
        have hv : valN c = c - 87 := by unfold valN; rw [if_neg d1, if_neg e1, if_pos ⟨f2, f3⟩]
        have hv2 : (if valN c < 16 then (valN c : Int) else 0) = (c : Int) - 87 := by rw [hv]; rw [if_pos (by omega)]; omega
        rw [hv2, hv, decide_eq_true (by omega : c - 87 < 16)]
        clear hv hv2
        go_enter Try.func107, Try.ntmps107
        go_wp2
        go_ret2
        exact ⟨ret2_int (by omega) rfl, rfl⟩
      · have hv : valN c = 99 := by unfold valN; rw [if_neg d1, if_neg e1, if_neg f1]
        rw [hv]
        clear hv
        go_enter Try.func107, Try.ntmps107
        go_wp2
        all_goals go_ret2
        all_goals exact ⟨rfl, rfl⟩
def digInts (b L j n : Nat) : List Int := List.replicate j (0 : Int) ++ (ndig b (L - j) n).map (fun c : UInt8 => (c.toNat : Int))
def digCells (b L j n : Nat) : Array Value := ((digInts b L j n).map (Value.int .u8)).toArray
theorem digCells_at (b L j n i : Nat) (hi : i < j) : (digCells b L j n)[i]? = some (.int .u8 0) := by
  simp [digCells, digInts, List.getElem?_append, hi]
theorem digCells_set (b L j n : Nat) (hj : j < L) : (digCells b L (j + 1) n).setIfInBounds j (.int .u8 (dig (n / b ^ (L - 1 - j) % b)).toNat) = digCells b L j n := by
  have e : L - j = (L - (j + 1)) + 1 := by omega
  have e2 : L - (j + 1) = L - 1 - j := by omega
  have h : (digInts b L (j + 1) n).set j ((dig (n / b ^ (L - 1 - j) % b)).toNat : Int) = digInts b L j n := by
    unfold digInts
    rw [e, ndig, e2, List.map_cons, List.replicate_succ', List.append_assoc, List.set_append_right _ _ (by simp)]
    simp
  unfold digCells
  rw [← h]
  simp
theorem digCells_cut (b L j n i : Nat) (u : Value) (hu : ((ndig b (L - j) n).map fun c : UInt8 => Value.int .u8 (c.toNat : Int))[i]? = some u) : (digCells b L j n)[j + i]? = some u := by
  simp only [digCells, digInts, List.getElem?_toArray, List.map_append, List.map_map]
  rw [List.getElem?_append_right (by simp)]
  simpa using hu
set_option maxRecDepth 100000 in
set_option maxHeartbeats 1000000 in
theorem Hex_any (n : Nat) (wd : Int) (w : World) (hn : n < 18446744073709551616) (w0 : -9223372036854775808 ≤ wd) (w1 : wd ≤ 9223372036854775807) :
    Calls Try.prog 74 #[.int .u64 n, .int .i64 wd] w fun e w' => e = .returned (.string ⟨(ndig 16 (kd 16 n (min wd 16).toNat) n).toArray⟩) ∧ Below w.heap.size w w' := by
  obtain ⟨k1, k2, k3, k4⟩ := kd_spec 16 n (min wd 16).toNat 16 (by omega) (by omega) (by omega) hn
  have hmore := more_iff 16 n (min wd 16).toNat 16 (by omega) (by omega) (by omega) hn
  generalize kd 16 n (min wd 16).toNat = K at *
  go_enter Try.func74, Try.ntmps74
  go_wp2
  go_loopw [0, 6] (fun a i wr => ∃ j : Nat, 16 - K ≤ j ∧ j ≤ 16 ∧ i = .int .i64 j ∧ a = .int .u64 (n / 16 ^ (16 - j) : Nat) ∧ Blk wr w.heap.size 153 (digCells 16 16 j n) ∧ Below w.heap.size w wr) (fun _ i _ => (intOf i).toNat)
  case atStart => exact ⟨16, by omega, Nat.le_refl _, rfl, by simp, Blk.new w _ _, below_alloc (Below.refl _ _) _⟩
  case round =>
    obtain ⟨j, hj, hj2, rfl, rfl, hb, hbl⟩ := hrel
    have hm := hmore (16 - j) (by omega)
    by_cases hlt : 16 - K < j
    · rw [decide_eq_true (by omega)] at hm
      obtain ⟨j, rfl⟩ : ∃ m, j = m + 1 := ⟨j - 1, by omega⟩
      have hc := (hb.cell j).trans (digCells_at 16 16 (j + 1) n j (by omega))
      have hf := hb.frozen j
      have e15 : 16 - (j + 1) = 15 - j := by omega
      rw [e15] at hm ⊢
      have hq : n / 16 ^ (15 - j) < 18446744073709551616 := Nat.lt_of_le_of_lt (Nat.div_le_self _ _) hn
      have hm' : 0 < n / 16 ^ (15 - j) ∨ j = 15 ∨ (15 : Int) - j < wd := by
        simp only [more, Bool.or_eq_true, decide_eq_true_eq] at hm
        omega
      have hd := div_pow_succ n 16 (15 - j)
      have hset := digCells_set 16 16 j n (by omega)
      generalize hQ : n / 16 ^ (15 - j) = q at *
      have HD := Lib.hid hd
      have HS := Lib.hid hset
      clear hd hset hQ
      have hand : bits .and .u64 (q : Int) 15 = (q : Int) % 16 := bits_mask .u64 64 (by decide) (fun n h0 h1 => by rw [IntKind.wrap_u64]; omega) 4 (by decide) q (by omega) (by omega)
      have hand0 : bits .and .u64 0 15 = 0 := by decide +kernel
      clear hmore k1 k2 e15 hm
      have three : 0 < q ∨ q = 0 ∧ j = 15 ∨ q = 0 ∧ j < 15 := by omega
      rcases three with h3 | ⟨h3, h4⟩ | ⟨h3, h4⟩
      all_goals
        try subst h3
        try subst h4
        have HB := Lib.hid hb
        go_wp2_with (go_at_call 106; refine (sign_any _ _ (by omega) (by omega)).mono ?_; rintro e w1 ⟨rfl, rfl⟩)
        all_goals
          go_roundw
          case rel =>
            first
              | refine ⟨j, by omega, by omega, rfl, ?_, ?_, hbl.setCell (Nat.le_refl _) _⟩
              | refine ⟨15, by omega, by omega, rfl, ?_, ?_, hbl.setCell (Nat.le_refl _) _⟩
            · rw [show ∀ j, j ≤ 15 → 16 - j = 15 - j + 1 from fun j h => by omega]
              · rw [← HD.out]; rfl
              · omega
            · rw [← HS.out]; exact HB.out.set_ _ _
          case measure => simp [intOf] <;> omega
    · rw [decide_eq_false (by omega)] at hm
      simp only [more, Bool.or_eq_false_iff, decide_eq_false_iff_not] at hm
      obtain ⟨m1, m2, m3⟩ := hm
      have m1' : n / 16 ^ (16 - j) = 0 := Nat.le_zero.1 (Nat.not_lt.1 m1)
      have hz : n < 16 ^ (16 - j) := by
        rcases Nat.lt_or_ge n (16 ^ (16 - j)) with h | h
        · exact h
        · have := Nat.div_pos h (Nat.pow_pos (by omega)); omega
      have m3' : wd ≤ 16 - (j : Int) ∨ 16 < wd ∧ j = 0 := by omega
      clear m1
      have hjK : j = 16 - K := by omega
      have hj16 : j < 16 := by omega
      have hKj : K = 16 - j := by omega
      have hal : Try.prog.arrayLen 153 = 16 := by kernel_rfl
      have hsl := slice_arr_from (P := Try.prog) (t := 153) (by kernel_rfl) hal (fun _ => by kernel_rfl) wr w.heap.size j hj16
      have hrd : Reads wr wr.heap.size 1 (some ⟨w.heap.size, j, none⟩) (16 - j) ((ndig 16 (16 - j) n).map fun c : UInt8 => .int .u8 (c.toNat : Int)) := by
        refine ⟨by simp [ndig_length], fun _ => ⟨_, rfl, hb.lt, fun i u hu => ?_⟩⟩
        rw [addr_addn, hb.cell]
        exact digCells_cut 16 16 j n i u hu
      have hcv := conv_bytes_str (P := Try.prog) (src := 37) (dst := 9) Try.underlying37 Try.underlying5 Try.underlying9 (16 - j) hrd
      have HK := Lib.hid hKj
      clear hKj hjK hmore k1 k2 hal hrd hj k3 hlt hz m3
      rw [m1']
      clear m1'
      have hjb : ((j : Int) == 16) = false := by rw [beq_eq_false_iff_ne]; omega
      by_cases hw : 16 < wd
      all_goals
        go_wp2
        go_ret
        refine ⟨?_, hbl⟩
        rw [HK.out]
        rfl
set_option maxRecDepth 100000 in
set_option maxHeartbeats 1000000 in
theorem Dec_any (n : Nat) (w : World) (hn : n < 18446744073709551616) :
    Calls Try.prog 75 #[.int .u64 n] w fun e w' => e = .returned (.string ⟨(ndig 10 (kd 10 n 1) n).toArray⟩) ∧ Below w.heap.size w w' := by
  obtain ⟨k1, k2, k3, k4⟩ := kd_spec 10 n 1 20 (by omega) (by omega) (by omega) (by omega)
  have hmore := more_iff 10 n 1 20 (by omega) (by omega) (by omega) (by omega)
  generalize kd 10 n 1 = K at *
  go_enter Try.func75, Try.ntmps75
  go_wp2
  go_loopw [0, 4] (fun a i wr => ∃ j : Nat, 20 - K ≤ j ∧ j ≤ 20 ∧ i = .int .i64 j ∧ a = .int .u64 (n / 10 ^ (20 - j) : Nat) ∧ Blk wr w.heap.size 154 (digCells 10 20 j n) ∧ Below w.heap.size w wr) (fun _ i _ => (intOf i).toNat)
  case atStart => exact ⟨20, by omega, Nat.le_refl _, rfl, by simp, Blk.new w _ _, below_alloc (Below.refl _ _) _⟩
  case round =>
    obtain ⟨j, hj, hj2, rfl, rfl, hb, hbl⟩ := hrel
    have hm := hmore (20 - j) (by omega)
    by_cases hlt : 20 - K < j
    · rw [decide_eq_true (by omega)] at hm
      obtain ⟨j, rfl⟩ : ∃ m, j = m + 1 := ⟨j - 1, by omega⟩
      have hc := (hb.cell j).trans (digCells_at 10 20 (j + 1) n j (by omega))
      have hf := hb.frozen j
      have e15 : 20 - (j + 1) = 19 - j := by omega
      rw [e15] at hm ⊢
      have hq : n / 10 ^ (19 - j) < 18446744073709551616 := Nat.lt_of_le_of_lt (Nat.div_le_self _ _) hn
      have hm' : 0 < n / 10 ^ (19 - j) ∨ j = 19 := by
        simp only [more, Bool.or_eq_true, decide_eq_true_eq] at hm
        omega
      have hd := div_pow_succ n 10 (19 - j)
      have hset := digCells_set 10 20 j n (by omega)
      generalize hQ : n / 10 ^ (19 - j) = q at *
      have HD := Lib.hid hd
      have HS := Lib.hid hset
      clear hd hset hQ
      clear hmore k1 k2 e15 hm
      have three : 0 < q ∨ q = 0 ∧ j = 19 := by omega
      rcases three with h3 | ⟨h3, h4⟩
      all_goals
        try subst h3
        try subst h4
        have HB := Lib.hid hb
        go_wp2_with (go_at_call 106; refine (sign_any _ _ (by omega) (by omega)).mono ?_; rintro e w1 ⟨rfl, rfl⟩)
        all_goals
          go_roundw
          case rel =>
            first
              | refine ⟨j, by omega, by omega, rfl, ?_, ?_, hbl.setCell (Nat.le_refl _) _⟩
              | refine ⟨19, by omega, by omega, rfl, ?_, ?_, hbl.setCell (Nat.le_refl _) _⟩
            · rw [show ∀ j, j ≤ 19 → 20 - j = 19 - j + 1 from fun j h => by omega]
              · rw [← HD.out]; rfl
              · omega
            · rw [← HS.out]; exact HB.out.set_ _ _
          case measure => simp [intOf] <;> omega
    · rw [decide_eq_false (by omega)] at hm
      simp only [more, Bool.or_eq_false_iff, decide_eq_false_iff_not] at hm
      obtain ⟨m1, m2, m3⟩ := hm
      have m1' : n / 10 ^ (20 - j) = 0 := Nat.le_zero.1 (Nat.not_lt.1 m1)
      have hz : n < 10 ^ (20 - j) := by
        rcases Nat.lt_or_ge n (10 ^ (20 - j)) with h | h
        · exact h
        · have := Nat.div_pos h (Nat.pow_pos (by omega)); omega
      clear m1
      have hjK : j = 20 - K := by omega
      have hj16 : j < 20 := by omega
      have hKj : K = 20 - j := by omega
      have hal : Try.prog.arrayLen 154 = 20 := by kernel_rfl
      have hsl := slice_arr_from (P := Try.prog) (t := 154) (by kernel_rfl) hal (fun _ => by kernel_rfl) wr w.heap.size j hj16
      have hrd : Reads wr wr.heap.size 1 (some ⟨w.heap.size, j, none⟩) (20 - j) ((ndig 10 (20 - j) n).map fun c : UInt8 => .int .u8 (c.toNat : Int)) := by
        refine ⟨by simp [ndig_length], fun _ => ⟨_, rfl, hb.lt, fun i u hu => ?_⟩⟩
        rw [addr_addn, hb.cell]
        exact digCells_cut 10 20 j n i u hu
      have hcv := conv_bytes_str (P := Try.prog) (src := 37) (dst := 9) Try.underlying37 Try.underlying5 Try.underlying9 (20 - j) hrd
      have HK := Lib.hid hKj
      clear hKj hjK hmore k1 k2 hal hrd hj k3 hlt hz m3
      rw [m1']
      clear m1'
      have hjb : ((j : Int) == 20) = false := by rw [beq_eq_false_iff_ne]; omega
      go_wp2
      go_ret
      refine ⟨?_, hbl⟩
      rw [HK.out]
      rfl
theorem Value_any (c : Nat) (w : World) (h1 : c < 256) :
    Calls Try.prog 112 #[.int .u8 c] w fun e w' => e = .returned (.int .i64 (valN c)) ∧ w = w' := by
  by_cases d1 : 48 ≤ c ∧ c ≤ 57
  · obtain ⟨d2, d3⟩ := d1
    have hv : (valN c : Int) = (c : Int) - 48 := by unfold valN; rw [if_pos ⟨d2, d3⟩]; omega
    rw [hv]
    clear hv
    go_enter Try.func112, Try.ntmps112
    go_wp2
    go_ret
    exact ⟨rfl, rfl⟩
  · by_cases e1 : 65 ≤ c ∧ c ≤ 70
    · obtain ⟨e2, e3⟩ := e1
      have hv : (valN c : Int) = (c : Int) - 55 := by unfold valN; rw [if_neg d1, if_pos ⟨e2, e3⟩]; omega
      rw [hv]
      clear hv
      go_enter Try.func112, Try.ntmps112
      go_wp2
      go_ret
      exact ⟨rfl, rfl⟩
    · by_cases f1 : 97 ≤ c ∧ c ≤ 102
      · obtain ⟨f2, f3⟩ := f1
        have hv : (valN c : Int) = (c : Int) - 87 := by unfold valN; rw [if_neg d1, if_neg e1, if_pos ⟨f2, f3⟩]; omega
        rw [hv]
        clear hv
        go_enter Try.func112, Try.ntmps112
        go_wp2
        go_ret
        exact ⟨rfl, rfl⟩
      · have hv : valN c = 99 := by unfold valN; rw [if_neg d1, if_neg e1, if_neg f1]
        rw [hv]
        clear hv
        go_enter Try.func112, Try.ntmps112
        go_wp2
        all_goals go_ret
        all_goals exact ⟨rfl, rfl⟩
end Go.Proofs.Ytgebopmiefgdoaa

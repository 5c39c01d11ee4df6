/-
  Contracts of differ.First and differ.Count.
-/
import Derived.Test.YtgebopmiefgdoaaEqRec
namespace Go.Proofs.Ytgebopmiefgdoaa
open Go.RowKit
/-- The first place at which two traces differ (counted from i), or -1. -/
def firstL : List Rec → List Rec → Nat → Int
  | [], [], _ => -1
  | x :: a, y :: b, i => if x = y then firstL a b (i + 1) else (i : Int)
  | [], _ :: _, i => (i : Int)
  | _ :: _, [], i => (i : Int)
/-- How many places of both there are at which they differ. -/
def cmpL : List Rec → List Rec → Nat
  | x :: a, y :: b => (if x = y then 0 else 1) + cmpL a b
  | [], _ => 0
  | _ :: _, [] => 0
def countL (a b : List Rec) : Nat := max a.length b.length - min a.length b.length + cmpL a b
theorem drop_at (l : List Rec) (k : Nat) (x : Rec) (h : l[k]? = some x) : l.drop k = x :: l.drop (k + 1) := by
  obtain ⟨hk, rfl⟩ := List.getElem?_eq_some_iff.1 h
  exact List.drop_eq_getElem_cons hk
theorem cmpL_le (a b : List Rec) : cmpL a b ≤ a.length := by
  induction a generalizing b with
  | nil => cases b <;> simp [cmpL]
  | cons x a ih =>
    cases b with
    | nil => simp [cmpL]
    | cons y b => have := ih b; simp only [cmpL, List.length_cons]; split <;> omega
theorem cmpL_nil (b : List Rec) : cmpL [] b = 0 := by cases b <;> rfl
theorem cmpL_nil2 (a : List Rec) : cmpL a [] = 0 := by cases a <;> rfl
def neqB (x y : Rec) : Bool := !decide (x = y)
set_option maxRecDepth 100000 in
set_option maxHeartbeats 4000000 in
theorem First_any (xs ys : List Rec) (A A2 : Option Addr) (n c n2 c2 B B2 : Nat) (w : World) (hr : Reads w B 9 A n (recsV xs)) (hr2 : Reads w B2 9 A2 n2 (recsV ys)) (hn : n ≤ 4611686018427387904) (hn2 : n2 ≤ 4611686018427387904) :
    Calls Try.prog 99 #[.slice A n c, .slice A2 n2 c2] w fun e w' => e = .returned (.int .i64 (firstL xs ys 0)) ∧ Below w.heap.size w w' := by
  have hxl : xs.length = n := Reads.len Rec.cells_len (by omega) hr
  have hyl : ys.length = n2 := Reads.len Rec.cells_len (by omega) hr2
  have HX := Lib.hid hxl
  have HY := Lib.hid hyl
  clear hxl hyl
  rcases Nat.lt_or_ge n2 n with hmn | hmn
  · go_enter Try.func99, Try.ntmps99
    go_wp2
    go_loopw [13] (fun i wr => ∃ k : Nat, k ≤ n2 ∧ i = .int .i64 k ∧ firstL (xs.drop k) (ys.drop k) k = firstL xs ys 0 ∧ Below w.heap.size w wr ∧ Reads wr B 9 A n (recsV xs) ∧ Reads wr B2 9 A2 n2 (recsV ys)) (fun i _ => n2 - (intOf i).toNat)
    case atStart => exact ⟨0, by omega, rfl, rfl, Below.refl _ _, hr, hr2⟩
    case round =>
      obtain ⟨k, hk, rfl, htk, hbl, hr', hr2'⟩ := hrel
      have HT := Lib.hid htk
      clear htk hr hr2
      by_cases hlt : k < n2
      · obtain ⟨ad, x, rfl, hab, hx, hc⟩ := rec_at hr' (by omega : k < n)
        obtain ⟨ad2, y, rfl, hab2, hy, hc2⟩ := rec_at hr2' (by omega : k < n2)
        have HX2 := Lib.hid (drop_at xs k x hx)
        have HY2 := Lib.hid (drop_at ys k y hy)
        clear hx hy
        have hneq := neq_rec x y
        have hlt' : (k : Int) < (n2 : Int) := by omega
        have hl1 : (k : Int) < (n : Int) := by omega
        have hl2 : (k : Int) < (n2 : Int) := by omega
        obtain ⟨p0, p1, p2, p3, p4, p5, p6, p7, p8⟩ := rec_cells hc
        obtain ⟨q0, q1, q2, q3, q4, q5, q6, q7, q8⟩ := rec_cells hc2
        clear hc hc2
        have HS : Hid (firstL (xs.drop k) (ys.drop k) k = if x = y then firstL (xs.drop (k + 1)) (ys.drop (k + 1)) (k + 1) else (k : Int)) := by
          show firstL (xs.drop k) (ys.drop k) k = _
          rw [HX2.out, HY2.out]
          rfl
        by_cases hxy : x = y
        · have HF : Hid (firstL (xs.drop (k + 1)) (ys.drop (k + 1)) (k + 1) = firstL xs ys 0) := by
            show firstL (xs.drop (k + 1)) (ys.drop (k + 1)) (k + 1) = firstL xs ys 0
            rw [← HT.out, HS.out, if_pos hxy]
          rw [decide_eq_true hxy] at hneq
          clear hxy HS
          go_wp2
          go_quiet (fail)
          go_wp2
          go_roundw
          case rel => exact ⟨k + 1, by omega, by go_num, HF.out, below_drewN hbl _, hr', hr2'⟩
          case measure => simp [intOf]; omega
        · have HF : Hid (firstL xs ys 0 = (k : Int)) := by
            show firstL xs ys 0 = (k : Int)
            rw [← HT.out, HS.out, if_neg hxy]
          rw [decide_eq_false hxy] at hneq
          clear hxy HS
          go_wp2
          go_quiet (fail)
          go_wp2
          go_ret
          rw [HF.out]
          exact ⟨rfl, below_drewN hbl _⟩
      · obtain rfl : k = n2 := by omega
        by_cases hne : n = k
        · have HF : Hid (firstL xs ys 0 = -1) := by
            show firstL xs ys 0 = -1
            rw [← HT.out, List.drop_of_length_le (by rw [HX.out]; omega), List.drop_of_length_le (by rw [HY.out]; omega)]
            rfl
          exact absurd hne (by omega)
        · have HF : Hid (firstL xs ys 0 = (k : Int)) := by
            show firstL xs ys 0 = (k : Int)
            rw [← HT.out]
            rcases Nat.lt_or_gt_of_ne hne with h | h
            · have hk1 : k = n := by omega
              have hk2 : k < k := by omega
              rw [List.drop_of_length_le (by rw [HX.out]; omega), drop_at ys k _ (List.getElem?_eq_getElem (by rw [HY.out]; exact hk2))]
              rfl
            · have hk1 : k = k := by omega
              have hk2 : k < n := by omega
              rw [List.drop_of_length_le (l := ys) (by rw [HY.out]; omega), drop_at xs k _ (List.getElem?_eq_getElem (by rw [HX.out]; exact hk2))]
              rfl
          have hb : ((n : Int) != (k : Int)) = true := by rw [bne_iff_ne]; omega
          clear hne
          go_wp2
          go_ret
          rw [HF.out]
          exact ⟨rfl, hbl⟩
  · go_enter Try.func99, Try.ntmps99
    go_wp2
    go_loopw [13] (fun i wr => ∃ k : Nat, k ≤ n ∧ i = .int .i64 k ∧ firstL (xs.drop k) (ys.drop k) k = firstL xs ys 0 ∧ Below w.heap.size w wr ∧ Reads wr B 9 A n (recsV xs) ∧ Reads wr B2 9 A2 n2 (recsV ys)) (fun i _ => n - (intOf i).toNat)
    case atStart => exact ⟨0, by omega, rfl, rfl, Below.refl _ _, hr, hr2⟩
    case round =>
      obtain ⟨k, hk, rfl, htk, hbl, hr', hr2'⟩ := hrel
      have HT := Lib.hid htk
      clear htk hr hr2
      by_cases hlt : k < n
      · obtain ⟨ad, x, rfl, hab, hx, hc⟩ := rec_at hr' (by omega : k < n)
        obtain ⟨ad2, y, rfl, hab2, hy, hc2⟩ := rec_at hr2' (by omega : k < n2)
        have HX2 := Lib.hid (drop_at xs k x hx)
        have HY2 := Lib.hid (drop_at ys k y hy)
        clear hx hy
        have hneq := neq_rec x y
        have hlt' : (k : Int) < (n : Int) := by omega
        have hl1 : (k : Int) < (n : Int) := by omega
        have hl2 : (k : Int) < (n2 : Int) := by omega
        obtain ⟨p0, p1, p2, p3, p4, p5, p6, p7, p8⟩ := rec_cells hc
        obtain ⟨q0, q1, q2, q3, q4, q5, q6, q7, q8⟩ := rec_cells hc2
        clear hc hc2
        have HS : Hid (firstL (xs.drop k) (ys.drop k) k = if x = y then firstL (xs.drop (k + 1)) (ys.drop (k + 1)) (k + 1) else (k : Int)) := by
          show firstL (xs.drop k) (ys.drop k) k = _
          rw [HX2.out, HY2.out]
          rfl
        by_cases hxy : x = y
        · have HF : Hid (firstL (xs.drop (k + 1)) (ys.drop (k + 1)) (k + 1) = firstL xs ys 0) := by
            show firstL (xs.drop (k + 1)) (ys.drop (k + 1)) (k + 1) = firstL xs ys 0
            rw [← HT.out, HS.out, if_pos hxy]
          rw [decide_eq_true hxy] at hneq
          clear hxy HS
          go_wp2
          go_quiet (fail)
          go_wp2
          go_roundw
          case rel => exact ⟨k + 1, by omega, by go_num, HF.out, below_drewN hbl _, hr', hr2'⟩
          case measure => simp [intOf]; omega
        · have HF : Hid (firstL xs ys 0 = (k : Int)) := by
            show firstL xs ys 0 = (k : Int)
            rw [← HT.out, HS.out, if_neg hxy]
          rw [decide_eq_false hxy] at hneq
          clear hxy HS
          go_wp2
          go_quiet (fail)
          go_wp2
          go_ret
          rw [HF.out]
          exact ⟨rfl, below_drewN hbl _⟩
      · obtain rfl : k = n := by omega
        by_cases hne : k = n2
        · have HF : Hid (firstL xs ys 0 = -1) := by
            show firstL xs ys 0 = -1
            rw [← HT.out, List.drop_of_length_le (by rw [HX.out]; omega), List.drop_of_length_le (by rw [HY.out]; omega)]
            rfl
          subst hne
          go_wp2
          go_ret
          rw [HF.out]
          exact ⟨rfl, hbl⟩
        · have HF : Hid (firstL xs ys 0 = (k : Int)) := by
            show firstL xs ys 0 = (k : Int)
            rw [← HT.out]
            rcases Nat.lt_or_gt_of_ne hne with h | h
            · have hk1 : k = k := by omega
              have hk2 : k < n2 := by omega
              rw [List.drop_of_length_le (by rw [HX.out]; omega), drop_at ys k _ (List.getElem?_eq_getElem (by rw [HY.out]; exact hk2))]
              rfl
            · have hk1 : k = n2 := by omega
              have hk2 : k < k := by omega
              rw [List.drop_of_length_le (l := ys) (by rw [HY.out]; omega), drop_at xs k _ (List.getElem?_eq_getElem (by rw [HX.out]; exact hk2))]
              rfl
          have hb : ((k : Int) != (n2 : Int)) = true := by rw [bne_iff_ne]; omega
          clear hne
          go_wp2
          go_ret
          rw [HF.out]
          exact ⟨rfl, hbl⟩
set_option maxRecDepth 100000 in
set_option maxHeartbeats 4000000 in
theorem Count_any (xs ys : List Rec) (A A2 : Option Addr) (n c n2 c2 B B2 : Nat) (w : World) (hr : Reads w B 9 A n (recsV xs)) (hr2 : Reads w B2 9 A2 n2 (recsV ys)) (hn : n ≤ 1048576) (hn2 : n2 ≤ 1048576) :
    Calls Try.prog 100 #[.slice A n c, .slice A2 n2 c2] w fun e w' => e = .returned (.int .i64 (countL xs ys)) ∧ Below w.heap.size w w' := by
  have hxl : xs.length = n := Reads.len Rec.cells_len (by omega) hr
  have hyl : ys.length = n2 := Reads.len Rec.cells_len (by omega) hr2
  have HX := Lib.hid hxl
  have HY := Lib.hid hyl
  clear hxl hyl
  rcases (by omega : n2 < n ∨ n < n2 ∨ n = n2) with hmn | hmn | hmn
  · go_enter Try.func100, Try.ntmps100
    go_wp2
    go_loopw [5, 23] (fun q0 i wr => ∃ k q : Nat, k ≤ n2 ∧ i = .int .i64 k ∧ q0 = .int .i64 q ∧ q + cmpL (xs.drop k) (ys.drop k) = (n - n2) + cmpL xs ys ∧ Below w.heap.size w wr ∧ Reads wr B 9 A n (recsV xs) ∧ Reads wr B2 9 A2 n2 (recsV ys)) (fun _ i _ => n2 - (intOf i).toNat)
    case atStart => exact ⟨0, n - n2, by omega, rfl, congrArg (Value.int .i64) (by omega), rfl, Below.refl _ _, hr, hr2⟩
    case round =>
      obtain ⟨k, q, hk, rfl, rfl, htk, hbl, hr', hr2'⟩ := hrel
      have HT := Lib.hid htk
      have hqb : q ≤ (n - n2) + n := by have := cmpL_le xs ys; rw [HX.out] at this; omega
      clear htk hr hr2
      by_cases hlt : k < n2
      · obtain ⟨ad, x, rfl, hab, hx, hc⟩ := rec_at hr' (by omega : k < n)
        obtain ⟨ad2, y, rfl, hab2, hy, hc2⟩ := rec_at hr2' (by omega : k < n2)
        have HX2 := Lib.hid (drop_at xs k x hx)
        have HY2 := Lib.hid (drop_at ys k y hy)
        clear hx hy
        have hneq := neq_rec x y
        have hlt' : (k : Int) < (n2 : Int) := by omega
        have hl1 : (k : Int) < (n : Int) := by omega
        have hl2 : (k : Int) < (n2 : Int) := by omega
        obtain ⟨p0, p1, p2, p3, p4, p5, p6, p7, p8⟩ := rec_cells hc
        obtain ⟨q0, q1, q2, q3, q4, q5, q6, q7, q8⟩ := rec_cells hc2
        clear hc hc2
        have HS : Hid (q + ((if x = y then 0 else 1) + cmpL (xs.drop (k + 1)) (ys.drop (k + 1))) = (n - n2) + cmpL xs ys) := by
          have h := HT.out
          rw [HX2.out, HY2.out] at h
          exact h
        by_cases hxy : x = y
        · have HF : Hid (q + cmpL (xs.drop (k + 1)) (ys.drop (k + 1)) = (n - n2) + cmpL xs ys) := by
            have h := HS.out
            rw [if_pos hxy] at h
            show q + cmpL (xs.drop (k + 1)) (ys.drop (k + 1)) = (n - n2) + cmpL xs ys
            omega
          rw [decide_eq_true hxy] at hneq
          clear hxy HS
          go_wp2
          go_quiet (fail)
          go_wp2
          go_roundw
          case rel => exact ⟨k + 1, q, by omega, by go_num, rfl, HF.out, below_drewN hbl _, hr', hr2'⟩
          case measure => simp [intOf]; omega
        · have HF : Hid (q + 1 + cmpL (xs.drop (k + 1)) (ys.drop (k + 1)) = (n - n2) + cmpL xs ys) := by
            have h := HS.out
            rw [if_neg hxy] at h
            show q + 1 + cmpL (xs.drop (k + 1)) (ys.drop (k + 1)) = (n - n2) + cmpL xs ys
            omega
          rw [decide_eq_false hxy] at hneq
          clear hxy HS
          go_wp2
          go_quiet (fail)
          go_wp2
          go_roundw
          case rel => exact ⟨k + 1, q + 1, by omega, by go_num, by go_num, HF.out, below_drewN hbl _, hr', hr2'⟩
          case measure => simp [intOf]; omega
      · have hkN : k = n2 := by omega
        have HF : Hid (countL xs ys = q) := by
          show countL xs ys = q
          have h := HT.out
          rw [List.drop_of_length_le (l := ys) (by rw [HY.out]; omega), cmpL_nil2] at h
          unfold countL
          rw [HX.out, HY.out]
          omega
        clear hkN
        go_wp2
        go_ret
        rw [HF.out]
        exact ⟨rfl, hbl⟩
  · go_enter Try.func100, Try.ntmps100
    go_wp2
    go_loopw [5, 23] (fun q0 i wr => ∃ k q : Nat, k ≤ n ∧ i = .int .i64 k ∧ q0 = .int .i64 q ∧ q + cmpL (xs.drop k) (ys.drop k) = (n2 - n) + cmpL xs ys ∧ Below w.heap.size w wr ∧ Reads wr B 9 A n (recsV xs) ∧ Reads wr B2 9 A2 n2 (recsV ys)) (fun _ i _ => n - (intOf i).toNat)
    case atStart => exact ⟨0, n2 - n, by omega, rfl, congrArg (Value.int .i64) (by omega), rfl, Below.refl _ _, hr, hr2⟩
    case round =>
      obtain ⟨k, q, hk, rfl, rfl, htk, hbl, hr', hr2'⟩ := hrel
      have HT := Lib.hid htk
      have hqb : q ≤ (n2 - n) + n := by have := cmpL_le xs ys; rw [HX.out] at this; omega
      clear htk hr hr2
      by_cases hlt : k < n
      · obtain ⟨ad, x, rfl, hab, hx, hc⟩ := rec_at hr' (by omega : k < n)
        obtain ⟨ad2, y, rfl, hab2, hy, hc2⟩ := rec_at hr2' (by omega : k < n2)
        have HX2 := Lib.hid (drop_at xs k x hx)
        have HY2 := Lib.hid (drop_at ys k y hy)
        clear hx hy
        have hneq := neq_rec x y
        have hlt' : (k : Int) < (n : Int) := by omega
        have hl1 : (k : Int) < (n : Int) := by omega
        have hl2 : (k : Int) < (n2 : Int) := by omega
        obtain ⟨p0, p1, p2, p3, p4, p5, p6, p7, p8⟩ := rec_cells hc
        obtain ⟨q0, q1, q2, q3, q4, q5, q6, q7, q8⟩ := rec_cells hc2
        clear hc hc2
        have HS : Hid (q + ((if x = y then 0 else 1) + cmpL (xs.drop (k + 1)) (ys.drop (k + 1))) = (n2 - n) + cmpL xs ys) := by
          have h := HT.out
          rw [HX2.out, HY2.out] at h
          exact h
        by_cases hxy : x = y
        · have HF : Hid (q + cmpL (xs.drop (k + 1)) (ys.drop (k + 1)) = (n2 - n) + cmpL xs ys) := by
            have h := HS.out
            rw [if_pos hxy] at h
            show q + cmpL (xs.drop (k + 1)) (ys.drop (k + 1)) = (n2 - n) + cmpL xs ys
            omega
          rw [decide_eq_true hxy] at hneq
          clear hxy HS
          go_wp2
          go_quiet (fail)
          go_wp2
          go_roundw
          case rel => exact ⟨k + 1, q, by omega, by go_num, rfl, HF.out, below_drewN hbl _, hr', hr2'⟩
          case measure => simp [intOf]; omega
        · have HF : Hid (q + 1 + cmpL (xs.drop (k + 1)) (ys.drop (k + 1)) = (n2 - n) + cmpL xs ys) := by
            have h := HS.out
            rw [if_neg hxy] at h
            show q + 1 + cmpL (xs.drop (k + 1)) (ys.drop (k + 1)) = (n2 - n) + cmpL xs ys
            omega
          rw [decide_eq_false hxy] at hneq
          clear hxy HS
          go_wp2
          go_quiet (fail)
          go_wp2
          go_roundw
          case rel => exact ⟨k + 1, q + 1, by omega, by go_num, by go_num, HF.out, below_drewN hbl _, hr', hr2'⟩
          case measure => simp [intOf]; omega
      · have hkN : k = n := by omega
        have HF : Hid (countL xs ys = q) := by
          show countL xs ys = q
          have h := HT.out
          rw [List.drop_of_length_le (l := xs) (by rw [HX.out]; omega), cmpL_nil] at h
          unfold countL
          rw [HX.out, HY.out]
          omega
        clear hkN
        go_wp2
        go_ret
        rw [HF.out]
        exact ⟨rfl, hbl⟩
  · subst hmn
    go_enter Try.func100, Try.ntmps100
    go_wp2
    go_loopw [5, 23] (fun q0 i wr => ∃ k q : Nat, k ≤ n ∧ i = .int .i64 k ∧ q0 = .int .i64 q ∧ q + cmpL (xs.drop k) (ys.drop k) = (n - n) + cmpL xs ys ∧ Below w.heap.size w wr ∧ Reads wr B 9 A n (recsV xs) ∧ Reads wr B2 9 A2 n (recsV ys)) (fun _ i _ => n - (intOf i).toNat)
    case atStart => exact ⟨0, n - n, by omega, rfl, congrArg (Value.int .i64) (by omega), rfl, Below.refl _ _, hr, hr2⟩
    case round =>
      obtain ⟨k, q, hk, rfl, rfl, htk, hbl, hr', hr2'⟩ := hrel
      have HT := Lib.hid htk
      have hqb : q ≤ (n - n) + n := by have := cmpL_le xs ys; rw [HX.out] at this; omega
      clear htk hr hr2
      by_cases hlt : k < n
      · obtain ⟨ad, x, rfl, hab, hx, hc⟩ := rec_at hr' (by omega : k < n)
        obtain ⟨ad2, y, rfl, hab2, hy, hc2⟩ := rec_at hr2' (by omega : k < n)
        have HX2 := Lib.hid (drop_at xs k x hx)
        have HY2 := Lib.hid (drop_at ys k y hy)
        clear hx hy
        have hneq := neq_rec x y
        have hlt' : (k : Int) < (n : Int) := by omega
        have hl1 : (k : Int) < (n : Int) := by omega
        have hl2 : (k : Int) < (n : Int) := by omega
        obtain ⟨p0, p1, p2, p3, p4, p5, p6, p7, p8⟩ := rec_cells hc
        obtain ⟨q0, q1, q2, q3, q4, q5, q6, q7, q8⟩ := rec_cells hc2
        clear hc hc2
        have HS : Hid (q + ((if x = y then 0 else 1) + cmpL (xs.drop (k + 1)) (ys.drop (k + 1))) = (n - n) + cmpL xs ys) := by
          have h := HT.out
          rw [HX2.out, HY2.out] at h
          exact h
        by_cases hxy : x = y
        · have HF : Hid (q + cmpL (xs.drop (k + 1)) (ys.drop (k + 1)) = (n - n) + cmpL xs ys) := by
            have h := HS.out
            rw [if_pos hxy] at h
            show q + cmpL (xs.drop (k + 1)) (ys.drop (k + 1)) = (n - n) + cmpL xs ys
            omega
          rw [decide_eq_true hxy] at hneq
          clear hxy HS
          go_wp2
          go_quiet (fail)
          go_wp2
          go_roundw
          case rel => exact ⟨k + 1, q, by omega, by go_num, rfl, HF.out, below_drewN hbl _, hr', hr2'⟩
          case measure => simp [intOf]; omega
        · have HF : Hid (q + 1 + cmpL (xs.drop (k + 1)) (ys.drop (k + 1)) = (n - n) + cmpL xs ys) := by
            have h := HS.out
            rw [if_neg hxy] at h
            show q + 1 + cmpL (xs.drop (k + 1)) (ys.drop (k + 1)) = (n - n) + cmpL xs ys
            omega
          rw [decide_eq_false hxy] at hneq
          clear hxy HS
          go_wp2
          go_quiet (fail)
          go_wp2
          go_roundw
          case rel => exact ⟨k + 1, q + 1, by omega, by go_num, by go_num, HF.out, below_drewN hbl _, hr', hr2'⟩
          case measure => simp [intOf]; omega
      · have hkN : k = n := by omega
        have HF : Hid (countL xs ys = q) := by
          show countL xs ys = q
          have h := HT.out
          rw [List.drop_of_length_le (l := xs) (by rw [HX.out]; omega), cmpL_nil] at h
          unfold countL
          rw [HX.out, HY.out]
          omega
        clear hkN
        go_wp2
        go_ret
        rw [HF.out]
        exact ⟨rfl, hbl⟩
end Go.Proofs.Ytgebopmiefgdoaa

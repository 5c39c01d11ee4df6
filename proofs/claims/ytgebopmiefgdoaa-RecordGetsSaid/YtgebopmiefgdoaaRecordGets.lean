/-
  The walk of the law RecordGets: for every bytes and every text it returns true.
-/
import Derived.Test.YtgebopmiefgdoaaRecElem
import Derived.Test.YtgebopmiefgdoaaRecPut
import Derived.Test.YtgebopmiefgdoaaRecRead
import Derived.Test.YtgebopmiefgdoaaRecText3
namespace Go.Proofs.Ytgebopmiefgdoaa
open Go.RowKit
def badB (l : List UInt8) (k : Nat) : Bool := (List.range k).any fun j => decide (127 < (l.getD (4 * j + 3) 0).toNat)
theorem badB_succ (l : List UInt8) (k : Nat) (c : UInt8) (h : l[4 * k + 3]? = some c) : badB l (k + 1) = (badB l k || decide (127 < c.toNat)) := by
  simp [badB, List.range_succ, List.getD_eq_getElem?_getD, h]
theorem badB_iff (l : List UInt8) (k : Nat) (hk : l.length = 4 * k) : badB l k = true ↔ badL l := by
  unfold badB badL
  rw [List.any_eq_true]
  constructor
  · rintro ⟨j, hj, hd⟩
    rw [List.mem_range] at hj
    have hlt : 4 * j + 3 < l.length := by omega
    refine ⟨j, l[4 * j + 3], List.getElem?_eq_getElem hlt, ?_⟩
    simpa [List.getD_eq_getElem?_getD, hlt] using hd
  · rintro ⟨j, c, hc, h⟩
    obtain ⟨hlt, rfl⟩ := List.getElem?_eq_some_iff.1 hc
    exact ⟨j, List.mem_range.2 (by omega), by simpa [List.getD_eq_getElem?_getD, hlt] using h⟩
theorem take_snocB (l : List UInt8) (k : Nat) (x : UInt8) (h : l[k]? = some x) : l.take (k + 1) = l.take k ++ [x] := by
  obtain ⟨hk, rfl⟩ := List.getElem?_eq_some_iff.1 h
  rw [List.take_succ_eq_append_getElem hk]
set_option maxRecDepth 100000 in
set_option maxHeartbeats 8000000 in
theorem RecordGets_walk (w : World) (b : Sl Int) (gb : b.Good w 1 u8Cell u8Good) (s : ByteArray) (gs : s.size ≤ maxLen) :
    Calls Try.prog 15 #[b.v, .string s] w fun e w' => e = .returned (.bool true) ∧ Below w.heap.size w w' := by
  obtain ⟨l, rfl, hl⟩ := str_list s
  obtain ⟨A, n, c, ys⟩ := b
  obtain ⟨hnc, hcm, hr, hlen, hall⟩ := gb
  dsimp only [Sl.v] at *
  obtain ⟨m, hm, hml⟩ := bytes_in hall
  rw [hm] at hr
  unfold maxLen at hcm gs
  have hsz : (ByteArray.mk l.toArray).size = l.length := by simp [ByteArray.size_mk']
  have g' : l.length ≤ 2 ^ 63 - 1 := by omega
  have hmn : m.length = n := by omega
  have HM := Lib.hid hmn
  obtain ⟨i0, hi, hz0, hz1, hz2⟩ := info_parts info_u8
  clear hl gs hm hml hall hlen hmn ys
  by_cases hbig : 200 < n
  · go_enter Try.func15, Try.ntmps15
    go_wp2
    go_ret
    exact ⟨rfl, Below.refl _ _⟩
  by_cases hbig2 : 60 < l.length
  · go_enter Try.func15, Try.ntmps15
    go_wp2
    go_ret
    exact ⟨rfl, Below.refl _ _⟩
  go_enter Try.func15, Try.ntmps15
  go_wp2_with fail
  refine (Get_any m A n c w.heap.size w (Nat.le_refl _) hr (by omega)).mono ?_
  rintro e w1 ⟨hb1, hget⟩
  obtain ⟨v, ee, rfl, hdd⟩ : ∃ v ee, e = .returned (.tuple #[v, .int .i64 ee]) ∧ ((m.length % 4 ≠ 0 ∧ v = .slice none 0 0 ∧ ee = 12) ∨ (m.length % 4 = 0 ∧ badL m ∧ v = .slice none 0 0 ∧ ee = 21) ∨ (m.length % 4 = 0 ∧ (¬ badL m) ∧ ee = 0 ∧ w1.ownsRow w.heap.size 64 9 v (m.length / 4) (recsV (getL m (m.length / 4))))) := by
    rcases hget with ⟨h, rfl⟩ | ⟨h, h2, rfl⟩ | ⟨h, h2, v, rfl, h3⟩
    · exact ⟨_, _, rfl, .inl ⟨h, rfl, rfl⟩⟩
    · exact ⟨_, _, rfl, .inr (.inl ⟨h, h2, rfl, rfl⟩)⟩
    · exact ⟨_, _, rfl, .inr (.inr ⟨h, h2, rfl, h3⟩)⟩
  have HGET := Lib.hid hdd
  clear hdd
  have hr1 := hr.below hb1
  go_wp2_with fail
  go_loop [7, 8] (fun bd i => ∃ k M : Nat, M = 4 * k + 3 ∧ 4 * k ≤ n ∧ i = .int .i64 M ∧ bd = .bool (badB m k)) (fun _ i => n + 4 - (intOf i).toNat)
  case atStart => exact ⟨0, 3, rfl, by omega, rfl, rfl⟩
  case round =>
    obtain ⟨k, M, hM, hk, rfl, rfl⟩ := hrel
    have HMM := Lib.hid hM
    by_cases hlt : M < n
    · obtain ⟨ad, u, rfl, hab, hu, hcell⟩ := hr1.at_ hlt
      obtain ⟨x, hx, rfl⟩ := bytesV_get m _ u hu
      have HS := Lib.hid (badB_succ m k x (by rw [← hM]; exact hx))
      clear hu hx hM
      cases hbk : badB m k
      all_goals
        go_wp2
        go_round
        case rel => exact ⟨k + 1, M + 4, by have := HMM.out; omega, by have := HMM.out; omega, by go_num, congrArg Value.bool (by rw [HS.out, hbk]; first | (simp; done) | (simp; omega))⟩
        case measure => simp [intOf]; omega
    · have HB : Hid (n % 4 = 0 → (badB m k = true ↔ badL m)) := fun h => badB_iff m k (by have := HM.out; omega)
      clear hM
      go_wp2_with fail
      refine (RRead_any l w1 (by omega)).mono ?_
      rintro e w2 ⟨hb2, hrd⟩
      have hr2 := hr1.below (hb2.mono hb1.size)
      have hbl2 := below_then hb1 hb2
      rcases hrd with ⟨a, d, b0, b1, b2, b3, b4, b5, b6, ha, hd, hrl, rfl⟩ | ⟨hno, rfl⟩
      · have HT : Hid (∀ W : World, Calls Try.prog 82 #[.agg #[.int .u16 a, .int .u8 d, .bool b0, .bool b1, .bool b2, .bool b3, .bool b4, .bool b5, .bool b6]] W fun e w' => e = .returned (.string ⟨l.toArray⟩) ∧ Below W.heap.size W w') := fun W => by
          have h := Text26_any a d b0 b1 b2 b3 b4 b5 b6 W ha hd
          rw [hrl] at h
          exact h
        clear hrl
        rcases HGET.out with ⟨h4, rfl, rfl⟩ | ⟨h4, hbad, rfl, rfl⟩ | ⟨h4, hbad, rfl, hown⟩
        · have ht : (0 : Int) < (n : Int) % 4 := by have := HM.out; omega
          clear h4 HGET HB
          go_wp2_with (first | (refine wpList_load_row rfl 64 (.tmp 9) rfl w2.heap.size rfl 64 _ (0, 0) _ (Blk.new w2 _ #[.int .u16 a, .int .u8 d, .bool b0, .bool b1, .bool b2, .bool b3, .bool b4, .bool b5, .bool b6]) Try.underlying64 rfl (by kernel_rfl) ?_) | (go_at_call 82; with_reducible refine (HT.out _).mono ?_; rintro e w3 ⟨rfl, hb3⟩) | (go_at_call 83; with_reducible refine (alive26 _).mono ?_; rintro e w9 ⟨rfl, hb9⟩))
          go_ret
          exact ⟨rfl, below_then (below_then (below_alloc hbl2 _) hb3) hb9⟩
        · have ht : (n : Int) % 4 = 0 := by have := HM.out; omega
          have hbk : badB m k = true := (HB.out (by have := HM.out; omega)).2 hbad
          clear h4 HGET HB hbad
          go_wp2_with (first | (refine wpList_load_row rfl 64 (.tmp 9) rfl w2.heap.size rfl 64 _ (0, 0) _ (Blk.new w2 _ #[.int .u16 a, .int .u8 d, .bool b0, .bool b1, .bool b2, .bool b3, .bool b4, .bool b5, .bool b6]) Try.underlying64 rfl (by kernel_rfl) ?_) | (go_at_call 82; with_reducible refine (HT.out _).mono ?_; rintro e w3 ⟨rfl, hb3⟩) | (go_at_call 83; with_reducible refine (alive26 _).mono ?_; rintro e w9 ⟨rfl, hb9⟩))
          go_ret
          exact ⟨rfl, below_then (below_then (below_alloc hbl2 _) hb3) hb9⟩
        · have ht : (n : Int) % 4 = 0 := by have := HM.out; omega
          have hbk : badB m k = false := by
            rcases Bool.eq_false_or_eq_true (badB m k) with h | h
            · exact absurd ((HB.out (by have := HM.out; omega)).1 h) hbad
            · exact h
          obtain ⟨Av, cv, rfl, hrv, hncv, hcmv⟩ := own_reads hown
          have HFO : Hid (∀ j c, m[4 * j + 3]? = some c → c.toNat ≤ 127) := fun j c hc => Nat.le_of_not_lt fun h => hbad ⟨j, c, hc, h⟩
          have HN4 := Lib.hid h4
          obtain ⟨N, hN⟩ : ∃ N, N = m.length / 4 := ⟨_, rfl⟩
          rw [← hN] at hrv hncv
          have HN := Lib.hid hN
          have hN50 : N ≤ 50 := by have := HM.out; omega
          have hrv2 := hrv.below hb2
          have hw1s := hb1.size
          have hw2s := hb2.size
          clear h4 HGET HB hbad hown hrv
          rw [← hN]
          clear hN
          go_wp2_with (first | (refine wpList_load_row rfl 64 (.tmp 9) rfl w2.heap.size rfl 64 _ (0, 0) _ (Blk.new w2 _ #[.int .u16 a, .int .u8 d, .bool b0, .bool b1, .bool b2, .bool b3, .bool b4, .bool b5, .bool b6]) Try.underlying64 rfl (by kernel_rfl) ?_) | (go_at_call 82; with_reducible refine (HT.out _).mono ?_; rintro e w3 ⟨rfl, hb3⟩))
          have hbl0 := hbl2.size
          have HBZ : Below w2.heap.size w2 w3 := (below_alloc (Below.refl _ _) _).trans (hb3.mono (by simp))
          clear hb3
          have hrA := hr2.below (HBZ.mono hbl2.size)
          have hrV := hrv2.below (HBZ.mono hw2s)
          have hbz := below_then hbl2 HBZ
          have hszz := HBZ.size
          clear HBZ hrv2 hr2 hb2 hr1 hb1 hbl2 ht hbk
          go_loopw [11, 12] (fun v i wr => ∃ j : Nat, j ≤ N ∧ i = .int .i64 j ∧ wr.ownsRow w3.heap.size 5 1 v (4 * j) (bytesV (m.take (4 * j))) ∧ Below w3.heap.size w3 wr) (fun _ i _ => N - (intOf i).toNat)
          case atStart => exact ⟨0, by omega, rfl, by simpa [bytesV] using own_nil _ _ _ _, Below.refl _ _⟩
          case round =>
            obtain ⟨j, hj, rfl, hown, hblj⟩ := hrel
            by_cases hjN : j < N
            · obtain ⟨ad, y, rfl, had, hy, hcells⟩ := rec_at hrV hjN
              obtain ⟨x0, hx0⟩ : ∃ x, m[4 * j]? = some x := ⟨_, List.getElem?_eq_getElem (by have := HN.out; omega)⟩
              obtain ⟨x1, hx1⟩ : ∃ x, m[4 * j + 1]? = some x := ⟨_, List.getElem?_eq_getElem (by have := HN.out; omega)⟩
              obtain ⟨x2, hx2⟩ : ∃ x, m[4 * j + 2]? = some x := ⟨_, List.getElem?_eq_getElem (by have := HN.out; omega)⟩
              obtain ⟨x3, hx3⟩ : ∃ x, m[4 * j + 3]? = some x := ⟨_, List.getElem?_eq_getElem (by have := HN.out; omega)⟩
              have hyr : y = recOf x0 x1 x2 x3 := by
                unfold getL at hy
                rw [List.getElem?_map, List.getElem?_range hjN] at hy
                simpa [List.getD_eq_getElem?_getD, hx0, hx1, hx2, hx3] using hy.symm
              subst hyr
              have HT4 : Hid (m.take (4 * (j + 1)) = m.take (4 * j) ++ [x0, x1, x2, x3]) := by
                show m.take (4 * (j + 1)) = m.take (4 * j) ++ [x0, x1, x2, x3]
                rw [show 4 * (j + 1) = 4 * j + 3 + 1 by omega, take_snocB m _ x3 hx3, take_snocB m _ x2 hx2, take_snocB m _ x1 hx1, take_snocB m _ x0 hx0]
                simp
              have HPU : Hid (∀ W : World, Calls Try.prog 84 #[.agg #[.int .u16 (256 * (x0.toNat : Int) + (x1.toNat : Int)), .int .u8 (x2.toNat : Int), .bool (lvl x3 0), .bool (lvl x3 1), .bool (lvl x3 2), .bool (lvl x3 3), .bool (lvl x3 4), .bool (lvl x3 5), .bool (lvl x3 6)]] W fun e w' => ∃ g, e = .returned (.slice (some ⟨g, 0, none⟩) 4 4) ∧ Reads w' w'.heap.size 1 (some ⟨g, 0, none⟩) 4 (bytesV [x0, x1, x2, x3]) ∧ Below W.heap.size W w') := fun W => by
                have l0 := x0.toNat_lt
                have l1 := x1.toNat_lt
                have l2 := x2.toNat_lt
                have h := Put26_any (256 * (x0.toNat : Int) + (x1.toNat : Int)).toNat (x2.toNat : Int).toNat (lvl x3 0) (lvl x3 1) (lvl x3 2) (lvl x3 3) (lvl x3 4) (lvl x3 5) (lvl x3 6) W (by omega) (by omega)
                rw [putL_recOf x0 x1 x2 x3 (HFO.out j x3 hx3), Int.toNat_of_nonneg (by omega), Int.toNat_of_nonneg (by omega)] at h
                exact h
              have hcells' : ∀ i u, (Rec.cells (recOf x0 x1 x2 x3))[i]? = some u → wr.cell? ((ad.add (j * 9)).add i) = some u := fun i u hu => (hblj.cell (p := (ad.add (j * 9)).add i) (by rw [block_of_add, block_of_add]; omega)).trans (hcells i u hu)
              replace hcells' : ∀ i u, ([.int .u16 (256 * (x0.toNat : Int) + (x1.toNat : Int)), .int .u8 (x2.toNat : Int), .bool (lvl x3 0), .bool (lvl x3 1), .bool (lvl x3 2), .bool (lvl x3 3), .bool (lvl x3 4), .bool (lvl x3 5), .bool (lvl x3 6)] : List Value)[i]? = some u → wr.cell? ((ad.add (j * 9)).add i) = some u := hcells'
              have HCE := Lib.hid hcells'
              clear hcells hcells' hx0 hx1 hx2 hx3 hy
              generalize lvl x3 0 = q0 at *
              generalize lvl x3 1 = q1 at *
              generalize lvl x3 2 = q2 at *
              generalize lvl x3 3 = q3 at *
              generalize lvl x3 4 = q4 at *
              generalize lvl x3 5 = q5 at *
              generalize lvl x3 6 = q6 at *
              have hjN' : (j : Int) < (N : Int) := by omega
              go_wp2_with (first | (refine wpList_load_at rfl 64 (.tmp 100) rfl (ad.add (j * 9)) rfl [.int .u16 (256 * (x0.toNat : Int) + (x1.toNat : Int)), .int .u8 (x2.toNat : Int), .bool q0, .bool q1, .bool q2, .bool q3, .bool q4, .bool q5, .bool q6] _ HCE.out Try.underlying64 rfl (by kernel_rfl) ?_) | (go_at_call 84; with_reducible refine (HPU.out _).mono ?_; rintro e w4 ⟨g, rfl, hr4, hb4⟩) | (at_builtin; refine wpList_append_any _ rfl (.tmp 97) (.tmp 102) 37 rfl w3.heap.size 5 i0 (.int .u8 0) 1 1 Try.underlying37 hi hz0 hz1 hz2 rfl (by omega) u11 (4 * j) (bytesV (m.take (4 * j))) rfl (own_below hown hb4) w4.heap.size (some ⟨g, 0, none⟩) 4 4 (bytesV [x0, x1, x2, x3]) rfl hr4 (bytesV_one _) (by simp only [maxLen]; omega) (by omega) (Nat.le_trans hblj.size hb4.size) ?_; intro v1 w5 hown1 hg1 hat1))
              go_roundw
              case rel => exact ⟨j + 1, by omega, by go_num, by rw [HT4.out, bytesV_append, show 4 * (j + 1) = 4 * j + 4 by omega]; exact hown1, below_own (below_then hblj hb4 |>.mono (Nat.le_refl _)) (own_below hown hb4) hg1 (Nat.le_trans hblj.size hb4.size)⟩
              case measure => simp [intOf]; omega
            · obtain rfl : j = N := by omega
              have hall : m.take (4 * j) = m := List.take_of_length_le (by have := HN.out; have := HN4.out; omega)
              rw [hall] at hown
              obtain ⟨A7, c7, rfl, hr7, _, _⟩ := own_reads hown
              have hrB := hrA.below (hblj.mono (Nat.le_trans hbl0 hszz))
              clear hall hown
              go_wp2_with (first | (go_at_call 36; with_reducible refine (Equal_any m m _ _ _ _ _ _ _ _ _ hr7 hrB).mono ?_; rintro e w5 ⟨rfl, rfl⟩) | (go_at_call 83; with_reducible refine (alive26 _).mono ?_; rintro e w9 ⟨rfl, hb9⟩))
              go_ret
              exact ⟨rfl, below_then (below_then hbz hblj) hb9⟩
      · clear hno
        have hneq : ∀ W : World, (binOp .neq 64 (.agg #[.int .u16 0, .int .u8 0, .bool false, .bool false, .bool false, .bool false, .bool false, .bool false, .bool false]) (.agg #[.int .u16 0, .int .u8 0, .bool false, .bool false, .bool false, .bool false, .bool false, .bool false, .bool false])).run Try.prog W = .ok (.bool false) W := fun W => by kernel_rfl
        rcases HGET.out with ⟨h4, rfl, rfl⟩ | ⟨h4, hbad, rfl, rfl⟩ | ⟨h4, hbad, rfl, hown⟩
        · have ht : (0 : Int) < (n : Int) % 4 := by have := HM.out; omega
          clear h4 HGET HB
          go_wp2_with (first | (refine wpList_load_row rfl 64 (.tmp 9) rfl w2.heap.size rfl 64 _ (0, 0) _ (Blk.new w2 _ #[.int .u16 0, .int .u8 0, .bool false, .bool false, .bool false, .bool false, .bool false, .bool false, .bool false]) Try.underlying64 rfl (by kernel_rfl) ?_) | (go_at_call 83; with_reducible refine (alive26 _).mono ?_; rintro e w9 ⟨rfl, hb9⟩))
          go_ret
          exact ⟨rfl, below_then (below_alloc hbl2 _) hb9⟩
        · have ht : (n : Int) % 4 = 0 := by have := HM.out; omega
          have hbk : badB m k = true := (HB.out (by have := HM.out; omega)).2 hbad
          clear h4 HGET HB hbad
          go_wp2_with (first | (refine wpList_load_row rfl 64 (.tmp 9) rfl w2.heap.size rfl 64 _ (0, 0) _ (Blk.new w2 _ #[.int .u16 0, .int .u8 0, .bool false, .bool false, .bool false, .bool false, .bool false, .bool false, .bool false]) Try.underlying64 rfl (by kernel_rfl) ?_) | (go_at_call 83; with_reducible refine (alive26 _).mono ?_; rintro e w9 ⟨rfl, hb9⟩))
          go_ret
          exact ⟨rfl, below_then (below_alloc hbl2 _) hb9⟩
        · have ht : (n : Int) % 4 = 0 := by have := HM.out; omega
          have hbk : badB m k = false := by
            rcases Bool.eq_false_or_eq_true (badB m k) with h | h
            · exact absurd ((HB.out (by have := HM.out; omega)).1 h) hbad
            · exact h
          obtain ⟨Av, cv, rfl, hrv, hncv, hcmv⟩ := own_reads hown
          have HFO : Hid (∀ j c, m[4 * j + 3]? = some c → c.toNat ≤ 127) := fun j c hc => Nat.le_of_not_lt fun h => hbad ⟨j, c, hc, h⟩
          have HN4 := Lib.hid h4
          obtain ⟨N, hN⟩ : ∃ N, N = m.length / 4 := ⟨_, rfl⟩
          rw [← hN] at hrv hncv
          have HN := Lib.hid hN
          have hN50 : N ≤ 50 := by have := HM.out; omega
          have hrv2 := hrv.below hb2
          have hw1s := hb1.size
          have hw2s := hb2.size
          clear h4 HGET HB hbad hown hrv
          rw [← hN]
          clear hN
          go_wp2_with (first | (refine wpList_load_row rfl 64 (.tmp 9) rfl w2.heap.size rfl 64 _ (0, 0) _ (Blk.new w2 _ #[.int .u16 0, .int .u8 0, .bool false, .bool false, .bool false, .bool false, .bool false, .bool false, .bool false]) Try.underlying64 rfl (by kernel_rfl) ?_))
          have hbl0 := hbl2.size
          have HBZ : Below w2.heap.size w2 (w2.alloc (.cells #[.int .u16 0, .int .u8 0, .bool false, .bool false, .bool false, .bool false, .bool false, .bool false, .bool false] 64)) := below_alloc (Below.refl _ _) _
          generalize w2.alloc (.cells #[.int .u16 0, .int .u8 0, .bool false, .bool false, .bool false, .bool false, .bool false, .bool false, .bool false] 64) = w3 at *
          have hrA := hr2.below (HBZ.mono hbl2.size)
          have hrV := hrv2.below (HBZ.mono hw2s)
          have hbz := below_then hbl2 HBZ
          have hszz := HBZ.size
          clear HBZ hrv2 hr2 hb2 hr1 hb1 hbl2 ht hbk
          go_loopw [11, 12] (fun v i wr => ∃ j : Nat, j ≤ N ∧ i = .int .i64 j ∧ wr.ownsRow w3.heap.size 5 1 v (4 * j) (bytesV (m.take (4 * j))) ∧ Below w3.heap.size w3 wr) (fun _ i _ => N - (intOf i).toNat)
          case atStart => exact ⟨0, by omega, rfl, by simpa [bytesV] using own_nil _ _ _ _, Below.refl _ _⟩
          case round =>
            obtain ⟨j, hj, rfl, hown, hblj⟩ := hrel
            by_cases hjN : j < N
            · obtain ⟨ad, y, rfl, had, hy, hcells⟩ := rec_at hrV hjN
              obtain ⟨x0, hx0⟩ : ∃ x, m[4 * j]? = some x := ⟨_, List.getElem?_eq_getElem (by have := HN.out; omega)⟩
              obtain ⟨x1, hx1⟩ : ∃ x, m[4 * j + 1]? = some x := ⟨_, List.getElem?_eq_getElem (by have := HN.out; omega)⟩
              obtain ⟨x2, hx2⟩ : ∃ x, m[4 * j + 2]? = some x := ⟨_, List.getElem?_eq_getElem (by have := HN.out; omega)⟩
              obtain ⟨x3, hx3⟩ : ∃ x, m[4 * j + 3]? = some x := ⟨_, List.getElem?_eq_getElem (by have := HN.out; omega)⟩
              have hyr : y = recOf x0 x1 x2 x3 := by
                unfold getL at hy
                rw [List.getElem?_map, List.getElem?_range hjN] at hy
                simpa [List.getD_eq_getElem?_getD, hx0, hx1, hx2, hx3] using hy.symm
              subst hyr
              have HT4 : Hid (m.take (4 * (j + 1)) = m.take (4 * j) ++ [x0, x1, x2, x3]) := by
                show m.take (4 * (j + 1)) = m.take (4 * j) ++ [x0, x1, x2, x3]
                rw [show 4 * (j + 1) = 4 * j + 3 + 1 by omega, take_snocB m _ x3 hx3, take_snocB m _ x2 hx2, take_snocB m _ x1 hx1, take_snocB m _ x0 hx0]
                simp
              have HPU : Hid (∀ W : World, Calls Try.prog 84 #[.agg #[.int .u16 (256 * (x0.toNat : Int) + (x1.toNat : Int)), .int .u8 (x2.toNat : Int), .bool (lvl x3 0), .bool (lvl x3 1), .bool (lvl x3 2), .bool (lvl x3 3), .bool (lvl x3 4), .bool (lvl x3 5), .bool (lvl x3 6)]] W fun e w' => ∃ g, e = .returned (.slice (some ⟨g, 0, none⟩) 4 4) ∧ Reads w' w'.heap.size 1 (some ⟨g, 0, none⟩) 4 (bytesV [x0, x1, x2, x3]) ∧ Below W.heap.size W w') := fun W => by
                have l0 := x0.toNat_lt
                have l1 := x1.toNat_lt
                have l2 := x2.toNat_lt
                have h := Put26_any (256 * (x0.toNat : Int) + (x1.toNat : Int)).toNat (x2.toNat : Int).toNat (lvl x3 0) (lvl x3 1) (lvl x3 2) (lvl x3 3) (lvl x3 4) (lvl x3 5) (lvl x3 6) W (by omega) (by omega)
                rw [putL_recOf x0 x1 x2 x3 (HFO.out j x3 hx3), Int.toNat_of_nonneg (by omega), Int.toNat_of_nonneg (by omega)] at h
                exact h
              have hcells' : ∀ i u, (Rec.cells (recOf x0 x1 x2 x3))[i]? = some u → wr.cell? ((ad.add (j * 9)).add i) = some u := fun i u hu => (hblj.cell (p := (ad.add (j * 9)).add i) (by rw [block_of_add, block_of_add]; omega)).trans (hcells i u hu)
              replace hcells' : ∀ i u, ([.int .u16 (256 * (x0.toNat : Int) + (x1.toNat : Int)), .int .u8 (x2.toNat : Int), .bool (lvl x3 0), .bool (lvl x3 1), .bool (lvl x3 2), .bool (lvl x3 3), .bool (lvl x3 4), .bool (lvl x3 5), .bool (lvl x3 6)] : List Value)[i]? = some u → wr.cell? ((ad.add (j * 9)).add i) = some u := hcells'
              have HCE := Lib.hid hcells'
              clear hcells hcells' hx0 hx1 hx2 hx3 hy
              generalize lvl x3 0 = q0 at *
              generalize lvl x3 1 = q1 at *
              generalize lvl x3 2 = q2 at *
              generalize lvl x3 3 = q3 at *
              generalize lvl x3 4 = q4 at *
              generalize lvl x3 5 = q5 at *
              generalize lvl x3 6 = q6 at *
              have hjN' : (j : Int) < (N : Int) := by omega
              go_wp2_with (first | (refine wpList_load_at rfl 64 (.tmp 100) rfl (ad.add (j * 9)) rfl [.int .u16 (256 * (x0.toNat : Int) + (x1.toNat : Int)), .int .u8 (x2.toNat : Int), .bool q0, .bool q1, .bool q2, .bool q3, .bool q4, .bool q5, .bool q6] _ HCE.out Try.underlying64 rfl (by kernel_rfl) ?_) | (go_at_call 84; with_reducible refine (HPU.out _).mono ?_; rintro e w4 ⟨g, rfl, hr4, hb4⟩) | (at_builtin; refine wpList_append_any _ rfl (.tmp 97) (.tmp 102) 37 rfl w3.heap.size 5 i0 (.int .u8 0) 1 1 Try.underlying37 hi hz0 hz1 hz2 rfl (by omega) u11 (4 * j) (bytesV (m.take (4 * j))) rfl (own_below hown hb4) w4.heap.size (some ⟨g, 0, none⟩) 4 4 (bytesV [x0, x1, x2, x3]) rfl hr4 (bytesV_one _) (by simp only [maxLen]; omega) (by omega) (Nat.le_trans hblj.size hb4.size) ?_; intro v1 w5 hown1 hg1 hat1))
              go_roundw
              case rel => exact ⟨j + 1, by omega, by go_num, by rw [HT4.out, bytesV_append, show 4 * (j + 1) = 4 * j + 4 by omega]; exact hown1, below_own (below_then hblj hb4 |>.mono (Nat.le_refl _)) (own_below hown hb4) hg1 (Nat.le_trans hblj.size hb4.size)⟩
              case measure => simp [intOf]; omega
            · obtain rfl : j = N := by omega
              have hall : m.take (4 * j) = m := List.take_of_length_le (by have := HN.out; have := HN4.out; omega)
              rw [hall] at hown
              obtain ⟨A7, c7, rfl, hr7, _, _⟩ := own_reads hown
              have hrB := hrA.below (hblj.mono (Nat.le_trans hbl0 hszz))
              clear hall hown
              go_wp2_with (first | (go_at_call 36; with_reducible refine (Equal_any m m _ _ _ _ _ _ _ _ _ hr7 hrB).mono ?_; rintro e w5 ⟨rfl, rfl⟩) | (go_at_call 83; with_reducible refine (alive26 _).mono ?_; rintro e w9 ⟨rfl, hb9⟩))
              go_ret
              exact ⟨rfl, below_then (below_then hbz hblj) hb9⟩
end Go.Proofs.Ytgebopmiefgdoaa

/-
  Contract of differ.Report.
-/
import Derived.Test.YtgebopmiefgdoaaReport0
namespace Go.Proofs.Ytgebopmiefgdoaa
open Go.RowKit
set_option maxRecDepth 100000 in
set_option maxHeartbeats 16000000 in
theorem Report_any (most : Int) (xs ys : List Rec) (A A2 : Option Addr) (n c n2 c2 : Nat) (w : World) (hr : Reads w w.heap.size 9 A n (recsV xs)) (hr2 : Reads w w.heap.size 9 A2 n2 (recsV ys)) (hgx : ∀ y ∈ xs, y.Good) (hgy : ∀ y ∈ ys, y.Good) (hn : n ≤ 1000) (hn2 : n2 ≤ 1000) (hm0 : -9223372036854775808 ≤ most) (hm1 : most ≤ 9223372036854775807) :
    Calls Try.prog 101 #[.int .i64 most, .slice A n c, .slice A2 n2 c2] w fun e w' => e = .returned (.string ⟨(repF xs ys (max n n2) 0 most.toNat).toArray⟩) ∧ Below w.heap.size w w' := by
  have hxl : xs.length = n := Reads.len Rec.cells_len (by omega) hr
  have hyl : ys.length = n2 := Reads.len Rec.cells_len (by omega) hr2
  have HXL := Lib.hid hxl
  have HYL := Lib.hid hyl
  have HSX : Hid (∀ (W : World) (k : Nat), Below w.heap.size w W → k ≤ 1000 → Calls Try.prog 125 #[.slice A n c, .int .i64 k] W fun e w' => e = .returned (.string ⟨(sideO xs[k]?).toArray⟩) ∧ Below W.heap.size W w') := fun W k hb hk => side_any xs A n c w.heap.size k W (hr.below hb) hgx (by omega) (by omega)
  have HSY : Hid (∀ (W : World) (k : Nat), Below w.heap.size w W → k ≤ 1000 → Calls Try.prog 125 #[.slice A2 n2 c2, .int .i64 k] W fun e w' => e = .returned (.string ⟨(sideO ys[k]?).toArray⟩) ∧ Below W.heap.size W w') := fun W k hb hk => side_any ys A2 n2 c2 w.heap.size k W (hr2.below hb) hgy (by omega) (by omega)
  clear hxl hyl hgx hgy
  rcases Nat.lt_or_ge n n2 with hmn | hmn
  · rw [Nat.max_eq_right (Nat.le_of_lt hmn)]
    go_enter Try.func101, Try.ntmps101
    go_wp2_with fail
    go_loopw [0, 8] (fun m i wr => ∃ (k : Nat) (q : Int) (out : List UInt8), k ≤ n2 ∧ i = .int .i64 k ∧ m = .int .i64 q ∧ -9223372036854775808 ≤ q ∧ q ≤ 9223372036854775807 ∧ out.length ≤ 1000 * k ∧ IsB w.heap.size w.heap.size out wr ∧ out ++ repF xs ys (n2 - k) k q.toNat = repF xs ys n2 0 most.toNat ∧ Below w.heap.size w wr) (fun _ i _ => n2 - (intOf i).toNat)
    case atStart => exact ⟨0, most, [], by omega, rfl, rfl, hm0, hm1, by simp, IsB.fresh w, rfl, below_alloc (Below.refl _ _) _⟩
    case round =>
      obtain ⟨k, q, out, hk, rfl, rfl, hq0, hq1, hol, hb, hrep, hbl⟩ := hrel
      have HREP := Lib.hid hrep
      clear hrep
      have hbs := hbl.size
      have hmxF : (n : Int) < (n2 : Int) := by omega
      by_cases hq : 0 < q
      · by_cases hkN : k < n2
        · have hkI : (k : Int) < (n2 : Int) := by omega
          obtain ⟨f, hf⟩ : ∃ f, n2 - k = f + 1 := ⟨n2 - k - 1, by omega⟩
          have HF1 := Lib.hid hf
          clear hf
          by_cases hk1 : k < n
          · have hk1I : (k : Int) < (n : Int) := by omega
            obtain ⟨ad, x, rfl, had, hx, hc0⟩ := rec_at hr hk1
            have HCX : Hid (∀ W : World, Below w.heap.size w W → ∀ j v, x.cells[j]? = some v → W.cell? ((ad.add (k * 9)).add j) = some v) := fun W hb j v hv => (hb.cell (by rw [block_of_add, block_of_add]; exact had)).trans (hc0 j v hv)
            have hc := HCX.out wr hbl
            clear hc0
            by_cases hk2 : k < n2
            · have hk2I : (k : Int) < (n2 : Int) := by omega
              obtain ⟨ad2, y, rfl, had2, hy, hc20⟩ := rec_at hr2 hk2
              have HCY : Hid (∀ W : World, Below w.heap.size w W → ∀ j v, y.cells[j]? = some v → W.cell? ((ad2.add (k * 9)).add j) = some v) := fun W hb j v hv => (hb.cell (by rw [block_of_add, block_of_add]; exact had2)).trans (hc20 j v hv)
              have hc2 := HCY.out wr hbl
              clear hc20
              have HX := Lib.hid hx
              have HY := Lib.hid hy
              have heql := eql_rec x y
              obtain ⟨p0, p1, p2, p3, p4, p5, p6, p7, p8⟩ := rec_cells hc
              obtain ⟨q0, q1, q2, q3, q4, q5, q6, q7, q8⟩ := rec_cells hc2
              clear hc hc2 hx hy
              by_cases hxy : x = y
              · have HST : Hid (out ++ repF xs ys f (k + 1) q.toNat = repF xs ys n2 0 most.toNat) := by
                  have h := HREP.out
                  rw [HF1.out, repF_skip xs ys f k q hq (by rw [HX.out, HY.out, hxy])] at h
                  exact h
                rw [decide_eq_true hxy] at heql
                clear hxy
                go_wp2
                go_quiet (fail)
                go_wp2
                go_roundw
                case rel => exact ⟨k + 1, q, out, by omega, by go_num, rfl, hq0, hq1, by omega, hb.below (below_drewN (Below.refl _ _) _), by rw [show n2 - (k + 1) = f by have := HF1.out; omega]; exact HST.out, below_drewN hbl _⟩
                case measure => simp [intOf]; omega
              · have HNE : Hid (xs[k]? ≠ ys[k]?) := by
                  show xs[k]? ≠ ys[k]?
                  rw [HX.out, HY.out]
                  exact fun e => hxy (Option.some.inj e)
                rw [decide_eq_false hxy] at heql
                clear hxy
                have HFI := Lib.hid (Fields_any x y)
                have HTL : Hid (tailO xs[k]? ys[k]? = 32 :: fieldsL x y) := by
                  show tailO xs[k]? ys[k]? = 32 :: fieldsL x y
                  rw [HX.out, HY.out]
                  rfl
                obtain ⟨dl, hdl⟩ : ∃ d, d = decL k := ⟨_, rfl⟩
                obtain ⟨sx, hsx⟩ : ∃ s, s = sideO xs[k]? := ⟨_, rfl⟩
                obtain ⟨sy, hsy⟩ : ∃ s, s = sideO ys[k]? := ⟨_, rfl⟩
                have hdll : dl.length ≤ 20 := by rw [hdl]; exact decL_len k (by omega)
                have hsxl : sx.length ≤ 17 := by rw [hsx]; exact sideO_len _
                have hsyl : sy.length ≤ 17 := by rw [hsy]; exact sideO_len _
                have HST : Hid (out ++ (dl ++ [58, 32] ++ sx ++ [32, 47, 32] ++ sy ++ (32 :: fieldsL x y) ++ [10]) ++ repF xs ys f (k + 1) (q - 1).toNat = repF xs ys n2 0 most.toNat) := by
                  have h := HREP.out
                  rw [HF1.out, repF_line xs ys f k q hq HNE.out] at h
                  have hl : lineL k xs[k]? ys[k]? = dl ++ [58, 32] ++ sx ++ [32, 47, 32] ++ sy ++ (32 :: fieldsL x y) ++ [10] := by
                    unfold lineL
                    rw [HTL.out, hdl, hsx, hsy]
                  rw [hl, ← List.append_assoc] at h
                  exact h
                have CD : Hid (∀ W : World, Calls Try.prog 75 #[.int .u64 k] W fun e w' => e = .returned (.string ⟨dl.toArray⟩) ∧ Below W.heap.size W w') := fun W => by rw [hdl]; exact Dec_decL k W (by omega)
                have CX : Hid (∀ W : World, Below w.heap.size w W → Calls Try.prog 125 #[.slice (some ad) n c, .int .i64 k] W fun e w' => e = .returned (.string ⟨sx.toArray⟩) ∧ Below W.heap.size W w') := fun W hb => by rw [hsx]; exact HSX.out W k hb (by omega)
                have CY : Hid (∀ W : World, Below w.heap.size w W → Calls Try.prog 125 #[.slice (some ad2) n2 c2, .int .i64 k] W fun e w' => e = .returned (.string ⟨sy.toArray⟩) ∧ Below W.heap.size W w') := fun W hb => by rw [hsy]; exact HSY.out W k hb (by omega)
                clear hdl hsx hsy HTL HNE
                clear HX HY
                go_wp2
                go_quiet (fail)
                clear p0 p1 p2 p3 p4 p5 p6 p7 p8 q0 q1 q2 q3 q4 q5 q6 q7 q8 heql
                have hbl1 := below_drewN hbl nq
                replace hb := hb.below (w' := wr.drewN nq) (below_drewN (Below.refl _ _) nq)
                generalize wr.drewN nq = w1 at *
                go_wp2_with fail
                refine (CD.out w1).mono ?_
                rintro e w2 ⟨rfl, hb2⟩
                replace hb := hb.below hb2
                have hbl2 := below_then hbl1 hb2
                go_wp2_with fail
                refine (CX.out w2 hbl2).mono ?_
                rintro e w3 ⟨rfl, hb3⟩
                replace hb := hb.below hb3
                have hbl3 := below_then hbl2 hb3
                go_wp2_with fail
                refine (CY.out w3 hbl3).mono ?_
                rintro e w4 ⟨rfl, hb4⟩
                replace hb := hb.below hb4
                have hbl4 := below_then hbl3 hb4
                clear hb2 hb3 hb4 hbl1 hbl2 hbl3 CD CX CY
                go_wp2_with fail
                obtain ⟨p0, p1, p2, p3, p4, p5, p6, p7, p8⟩ := rec_cells (HCX.out w4 hbl4)
                obtain ⟨q0, q1, q2, q3, q4, q5, q6, q7, q8⟩ := rec_cells (HCY.out w4 hbl4)
                have hs4 := hbl4.size
                have hPd : (ad.add (k * 9)).block < w4.drew.heap.size := by
                  rw [block_of_add]
                  have : ad.block < w4.heap.size := by omega
                  simpa using this
                have hQd : (ad2.add (k * 9)).block < w4.drew.heap.size := by
                  rw [block_of_add]
                  have : ad2.block < w4.heap.size := by omega
                  simpa using this
                have hfl := fieldsL_len x y
                generalize fieldsL x y = fl at *
                go_region_with ((go_at_call 104; with_reducible refine (HFI.out _).mono ?_; rintro e w5 ⟨rfl, hbf⟩))
                all_goals
                  replace hb := (hb.below (w' := w4.drew) (below_drewN (Below.refl _ _) 1)).below hbf
                  have hbl5 := below_then (w1 := w4.drew) (below_drewN hbl4 1) hbf
                  clear p0 p1 p2 p3 p4 p5 p6 p7 p8 q0 q1 q2 q3 q4 q5 q6 q7 q8 hbf
                  go_wp2_with fail
                  refine (WStringE w.heap.size w.heap.size out _ (dl ++ [58, 32] ++ sx ++ [32, 47, 32] ++ sy ++ (32 :: fl) ++ [10]) w5 (by apply ByteArray.ext; simp) hb (by simp only [List.length_append, List.length_cons, List.length_nil]; omega) hbl5.size).mono ?_
                  rintro e w6 ⟨⟨v6, rfl⟩, hb6, hbl6⟩
                  go_wp2_with fail
                  go_roundw
                  case rel => exact ⟨k + 1, q - 1, _, by omega, by go_num, by go_num, by omega, by omega, by simp only [List.length_append, List.length_cons, List.length_nil]; omega, hb6, by rw [show n2 - (k + 1) = f by have := HF1.out; omega]; exact HST.out, hbl5.trans hbl6⟩
                  case measure => simp [intOf]; omega
            · exact absurd hkN (by omega)
          · have hk1I : (n : Int) ≤ (k : Int) := by omega
            have hk2 : k < n2 := by omega
            have HNE : Hid (xs[k]? ≠ ys[k]?) := by
              show xs[k]? ≠ ys[k]?
              rw [List.getElem?_eq_none (by rw [HXL.out]; omega), List.getElem?_eq_getElem (by rw [HYL.out]; exact hk2)]
              simp
            have HTL : Hid (tailO xs[k]? ys[k]? = []) := by
              show tailO xs[k]? ys[k]? = []
              rw [List.getElem?_eq_none (by rw [HXL.out]; omega)]
              rfl
            have hd1 : decide ((k : Int) < (n : Int)) = false := decide_eq_false (by omega)
            obtain ⟨dl, hdl⟩ : ∃ d, d = decL k := ⟨_, rfl⟩
            obtain ⟨sx, hsx⟩ : ∃ s, s = sideO xs[k]? := ⟨_, rfl⟩
            obtain ⟨sy, hsy⟩ : ∃ s, s = sideO ys[k]? := ⟨_, rfl⟩
            have hdll : dl.length ≤ 20 := by rw [hdl]; exact decL_len k (by omega)
            have hsxl : sx.length ≤ 17 := by rw [hsx]; exact sideO_len _
            have hsyl : sy.length ≤ 17 := by rw [hsy]; exact sideO_len _
            have HST : Hid (out ++ (dl ++ [58, 32] ++ sx ++ [32, 47, 32] ++ sy ++ ([]) ++ [10]) ++ repF xs ys f (k + 1) (q - 1).toNat = repF xs ys n2 0 most.toNat) := by
              have h := HREP.out
              rw [HF1.out, repF_line xs ys f k q hq HNE.out] at h
              have hl : lineL k xs[k]? ys[k]? = dl ++ [58, 32] ++ sx ++ [32, 47, 32] ++ sy ++ ([]) ++ [10] := by
                unfold lineL
                rw [HTL.out, hdl, hsx, hsy]
              rw [hl, ← List.append_assoc] at h
              exact h
            have CD : Hid (∀ W : World, Calls Try.prog 75 #[.int .u64 k] W fun e w' => e = .returned (.string ⟨dl.toArray⟩) ∧ Below W.heap.size W w') := fun W => by rw [hdl]; exact Dec_decL k W (by omega)
            have CX : Hid (∀ W : World, Below w.heap.size w W → Calls Try.prog 125 #[.slice A n c, .int .i64 k] W fun e w' => e = .returned (.string ⟨sx.toArray⟩) ∧ Below W.heap.size W w') := fun W hb => by rw [hsx]; exact HSX.out W k hb (by omega)
            have CY : Hid (∀ W : World, Below w.heap.size w W → Calls Try.prog 125 #[.slice A2 n2 c2, .int .i64 k] W fun e w' => e = .returned (.string ⟨sy.toArray⟩) ∧ Below W.heap.size W w') := fun W hb => by rw [hsy]; exact HSY.out W k hb (by omega)
            clear hdl hsx hsy HTL HNE
            skip
            go_wp2_with fail
            go_quiet (fail)
            have hbl1 := below_drewN hbl nq
            replace hb := hb.below (w' := wr.drewN nq) (below_drewN (Below.refl _ _) nq)
            generalize wr.drewN nq = w1 at *
            go_wp2_with fail
            refine (CD.out w1).mono ?_
            rintro e w2 ⟨rfl, hb2⟩
            replace hb := hb.below hb2
            have hbl2 := below_then hbl1 hb2
            go_wp2_with fail
            refine (CX.out w2 hbl2).mono ?_
            rintro e w3 ⟨rfl, hb3⟩
            replace hb := hb.below hb3
            have hbl3 := below_then hbl2 hb3
            go_wp2_with fail
            refine (CY.out w3 hbl3).mono ?_
            rintro e w4 ⟨rfl, hb4⟩
            replace hb := hb.below hb4
            have hbl4 := below_then hbl3 hb4
            clear hb2 hb3 hb4 hbl1 hbl2 hbl3 CD CX CY
            go_wp2_with fail
            refine (WStringE w.heap.size w.heap.size out _ (dl ++ [58, 32] ++ sx ++ [32, 47, 32] ++ sy ++ [] ++ [10]) w4 (by apply ByteArray.ext; simp) hb (by simp only [List.length_append, List.length_cons, List.length_nil]; omega) hbl4.size).mono ?_
            rintro e w6 ⟨⟨v6, rfl⟩, hb6, hbl6⟩
            go_wp2_with fail
            go_roundw
            case rel => exact ⟨k + 1, q - 1, _, by omega, by go_num, by go_num, by omega, by omega, by simp only [List.length_append, List.length_cons, List.length_nil]; omega, hb6, by rw [show n2 - (k + 1) = f by have := HF1.out; omega]; exact HST.out, hbl4.trans hbl6⟩
            case measure => simp [intOf]; omega
        · obtain rfl : k = n2 := by omega
          have HEN : Hid (out = repF xs ys k 0 most.toNat) := by
            have h := HREP.out
            rw [Nat.sub_self] at h
            exact (List.append_nil out).symm.trans h
          clear hkN
          go_wp2_with fail
          refine (BString w.heap.size w.heap.size out wr hb hbl.size).mono ?_
          rintro e w4 ⟨rfl, hb4⟩
          go_wp2
          go_ret
          rw [HEN.out]
          exact ⟨rfl, hbl.trans hb4⟩
      · have HEN : Hid (out = repF xs ys n2 0 most.toNat) := by
          have h := HREP.out
          rw [show q.toNat = 0 by omega, repF_zero, List.append_nil] at h
          exact h
        have hqI : decide ((0 : Int) < q) = false := decide_eq_false hq
        go_wp2_with fail
        all_goals
          refine (BString w.heap.size w.heap.size out wr hb hbl.size).mono ?_
          rintro e w4 ⟨rfl, hb4⟩
          go_wp2
          go_ret
          rw [HEN.out]
          exact ⟨rfl, hbl.trans hb4⟩
  · rw [Nat.max_eq_left hmn]
    go_enter Try.func101, Try.ntmps101
    go_wp2_with fail
    go_loopw [0, 8] (fun m i wr => ∃ (k : Nat) (q : Int) (out : List UInt8), k ≤ n ∧ i = .int .i64 k ∧ m = .int .i64 q ∧ -9223372036854775808 ≤ q ∧ q ≤ 9223372036854775807 ∧ out.length ≤ 1000 * k ∧ IsB w.heap.size w.heap.size out wr ∧ out ++ repF xs ys (n - k) k q.toNat = repF xs ys n 0 most.toNat ∧ Below w.heap.size w wr) (fun _ i _ => n - (intOf i).toNat)
    case atStart => exact ⟨0, most, [], by omega, rfl, rfl, hm0, hm1, by simp, IsB.fresh w, rfl, below_alloc (Below.refl _ _) _⟩
    case round =>
      obtain ⟨k, q, out, hk, rfl, rfl, hq0, hq1, hol, hb, hrep, hbl⟩ := hrel
      have HREP := Lib.hid hrep
      clear hrep
      have hbs := hbl.size
      have hmxF : (n2 : Int) ≤ (n : Int) := by omega
      by_cases hq : 0 < q
      · by_cases hkN : k < n
        · have hkI : (k : Int) < (n : Int) := by omega
          obtain ⟨f, hf⟩ : ∃ f, n - k = f + 1 := ⟨n - k - 1, by omega⟩
          have HF1 := Lib.hid hf
          clear hf
          by_cases hk1 : k < n
          · have hk1I : (k : Int) < (n : Int) := by omega
            obtain ⟨ad, x, rfl, had, hx, hc0⟩ := rec_at hr hk1
            have HCX : Hid (∀ W : World, Below w.heap.size w W → ∀ j v, x.cells[j]? = some v → W.cell? ((ad.add (k * 9)).add j) = some v) := fun W hb j v hv => (hb.cell (by rw [block_of_add, block_of_add]; exact had)).trans (hc0 j v hv)
            have hc := HCX.out wr hbl
            clear hc0
            by_cases hk2 : k < n2
            · have hk2I : (k : Int) < (n2 : Int) := by omega
              obtain ⟨ad2, y, rfl, had2, hy, hc20⟩ := rec_at hr2 hk2
              have HCY : Hid (∀ W : World, Below w.heap.size w W → ∀ j v, y.cells[j]? = some v → W.cell? ((ad2.add (k * 9)).add j) = some v) := fun W hb j v hv => (hb.cell (by rw [block_of_add, block_of_add]; exact had2)).trans (hc20 j v hv)
              have hc2 := HCY.out wr hbl
              clear hc20
              have HX := Lib.hid hx
              have HY := Lib.hid hy
              have heql := eql_rec x y
              obtain ⟨p0, p1, p2, p3, p4, p5, p6, p7, p8⟩ := rec_cells hc
              obtain ⟨q0, q1, q2, q3, q4, q5, q6, q7, q8⟩ := rec_cells hc2
              clear hc hc2 hx hy
              by_cases hxy : x = y
              · have HST : Hid (out ++ repF xs ys f (k + 1) q.toNat = repF xs ys n 0 most.toNat) := by
                  have h := HREP.out
                  rw [HF1.out, repF_skip xs ys f k q hq (by rw [HX.out, HY.out, hxy])] at h
                  exact h
                rw [decide_eq_true hxy] at heql
                clear hxy
                go_wp2
                go_quiet (fail)
                go_wp2
                go_roundw
                case rel => exact ⟨k + 1, q, out, by omega, by go_num, rfl, hq0, hq1, by omega, hb.below (below_drewN (Below.refl _ _) _), by rw [show n - (k + 1) = f by have := HF1.out; omega]; exact HST.out, below_drewN hbl _⟩
                case measure => simp [intOf]; omega
              · have HNE : Hid (xs[k]? ≠ ys[k]?) := by
                  show xs[k]? ≠ ys[k]?
                  rw [HX.out, HY.out]
                  exact fun e => hxy (Option.some.inj e)
                rw [decide_eq_false hxy] at heql
                clear hxy
                have HFI := Lib.hid (Fields_any x y)
                have HTL : Hid (tailO xs[k]? ys[k]? = 32 :: fieldsL x y) := by
                  show tailO xs[k]? ys[k]? = 32 :: fieldsL x y
                  rw [HX.out, HY.out]
                  rfl
                obtain ⟨dl, hdl⟩ : ∃ d, d = decL k := ⟨_, rfl⟩
                obtain ⟨sx, hsx⟩ : ∃ s, s = sideO xs[k]? := ⟨_, rfl⟩
                obtain ⟨sy, hsy⟩ : ∃ s, s = sideO ys[k]? := ⟨_, rfl⟩
                have hdll : dl.length ≤ 20 := by rw [hdl]; exact decL_len k (by omega)
                have hsxl : sx.length ≤ 17 := by rw [hsx]; exact sideO_len _
                have hsyl : sy.length ≤ 17 := by rw [hsy]; exact sideO_len _
                have HST : Hid (out ++ (dl ++ [58, 32] ++ sx ++ [32, 47, 32] ++ sy ++ (32 :: fieldsL x y) ++ [10]) ++ repF xs ys f (k + 1) (q - 1).toNat = repF xs ys n 0 most.toNat) := by
                  have h := HREP.out
                  rw [HF1.out, repF_line xs ys f k q hq HNE.out] at h
                  have hl : lineL k xs[k]? ys[k]? = dl ++ [58, 32] ++ sx ++ [32, 47, 32] ++ sy ++ (32 :: fieldsL x y) ++ [10] := by
                    unfold lineL
                    rw [HTL.out, hdl, hsx, hsy]
                  rw [hl, ← List.append_assoc] at h
                  exact h
                have CD : Hid (∀ W : World, Calls Try.prog 75 #[.int .u64 k] W fun e w' => e = .returned (.string ⟨dl.toArray⟩) ∧ Below W.heap.size W w') := fun W => by rw [hdl]; exact Dec_decL k W (by omega)
                have CX : Hid (∀ W : World, Below w.heap.size w W → Calls Try.prog 125 #[.slice (some ad) n c, .int .i64 k] W fun e w' => e = .returned (.string ⟨sx.toArray⟩) ∧ Below W.heap.size W w') := fun W hb => by rw [hsx]; exact HSX.out W k hb (by omega)
                have CY : Hid (∀ W : World, Below w.heap.size w W → Calls Try.prog 125 #[.slice (some ad2) n2 c2, .int .i64 k] W fun e w' => e = .returned (.string ⟨sy.toArray⟩) ∧ Below W.heap.size W w') := fun W hb => by rw [hsy]; exact HSY.out W k hb (by omega)
                clear hdl hsx hsy HTL HNE
                clear HX HY
                go_wp2
                go_quiet (fail)
                clear p0 p1 p2 p3 p4 p5 p6 p7 p8 q0 q1 q2 q3 q4 q5 q6 q7 q8 heql
                have hbl1 := below_drewN hbl nq
                replace hb := hb.below (w' := wr.drewN nq) (below_drewN (Below.refl _ _) nq)
                generalize wr.drewN nq = w1 at *
                go_wp2_with fail
                refine (CD.out w1).mono ?_
                rintro e w2 ⟨rfl, hb2⟩
                replace hb := hb.below hb2
                have hbl2 := below_then hbl1 hb2
                go_wp2_with fail
                refine (CX.out w2 hbl2).mono ?_
                rintro e w3 ⟨rfl, hb3⟩
                replace hb := hb.below hb3
                have hbl3 := below_then hbl2 hb3
                go_wp2_with fail
                refine (CY.out w3 hbl3).mono ?_
                rintro e w4 ⟨rfl, hb4⟩
                replace hb := hb.below hb4
                have hbl4 := below_then hbl3 hb4
                clear hb2 hb3 hb4 hbl1 hbl2 hbl3 CD CX CY
                go_wp2_with fail
                obtain ⟨p0, p1, p2, p3, p4, p5, p6, p7, p8⟩ := rec_cells (HCX.out w4 hbl4)
                obtain ⟨q0, q1, q2, q3, q4, q5, q6, q7, q8⟩ := rec_cells (HCY.out w4 hbl4)
                have hs4 := hbl4.size
                have hPd : (ad.add (k * 9)).block < w4.drew.heap.size := by
                  rw [block_of_add]
                  have : ad.block < w4.heap.size := by omega
                  simpa using this
                have hQd : (ad2.add (k * 9)).block < w4.drew.heap.size := by
                  rw [block_of_add]
                  have : ad2.block < w4.heap.size := by omega
                  simpa using this
                have hfl := fieldsL_len x y
                generalize fieldsL x y = fl at *
                go_region_with ((go_at_call 104; with_reducible refine (HFI.out _).mono ?_; rintro e w5 ⟨rfl, hbf⟩))
                all_goals
                  replace hb := (hb.below (w' := w4.drew) (below_drewN (Below.refl _ _) 1)).below hbf
                  have hbl5 := below_then (w1 := w4.drew) (below_drewN hbl4 1) hbf
                  clear p0 p1 p2 p3 p4 p5 p6 p7 p8 q0 q1 q2 q3 q4 q5 q6 q7 q8 hbf
                  go_wp2_with fail
                  refine (WStringE w.heap.size w.heap.size out _ (dl ++ [58, 32] ++ sx ++ [32, 47, 32] ++ sy ++ (32 :: fl) ++ [10]) w5 (by apply ByteArray.ext; simp) hb (by simp only [List.length_append, List.length_cons, List.length_nil]; omega) hbl5.size).mono ?_
                  rintro e w6 ⟨⟨v6, rfl⟩, hb6, hbl6⟩
                  go_wp2_with fail
                  go_roundw
                  case rel => exact ⟨k + 1, q - 1, _, by omega, by go_num, by go_num, by omega, by omega, by simp only [List.length_append, List.length_cons, List.length_nil]; omega, hb6, by rw [show n - (k + 1) = f by have := HF1.out; omega]; exact HST.out, hbl5.trans hbl6⟩
                  case measure => simp [intOf]; omega
            · have hk2I : (n2 : Int) ≤ (k : Int) := by omega
              have HNE : Hid (xs[k]? ≠ ys[k]?) := by
                show xs[k]? ≠ ys[k]?
                intro e
                rw [hx, List.getElem?_eq_none (by rw [HYL.out]; omega)] at e
                cases e
              have HTL : Hid (tailO xs[k]? ys[k]? = []) := by
                show tailO xs[k]? ys[k]? = []
                rw [hx, List.getElem?_eq_none (by rw [HYL.out]; omega)]
                rfl
              have hd1 : decide ((k : Int) < (n2 : Int)) = false := decide_eq_false (by omega)
              clear hx hc
              obtain ⟨dl, hdl⟩ : ∃ d, d = decL k := ⟨_, rfl⟩
              obtain ⟨sx, hsx⟩ : ∃ s, s = sideO xs[k]? := ⟨_, rfl⟩
              obtain ⟨sy, hsy⟩ : ∃ s, s = sideO ys[k]? := ⟨_, rfl⟩
              have hdll : dl.length ≤ 20 := by rw [hdl]; exact decL_len k (by omega)
              have hsxl : sx.length ≤ 17 := by rw [hsx]; exact sideO_len _
              have hsyl : sy.length ≤ 17 := by rw [hsy]; exact sideO_len _
              have HST : Hid (out ++ (dl ++ [58, 32] ++ sx ++ [32, 47, 32] ++ sy ++ ([]) ++ [10]) ++ repF xs ys f (k + 1) (q - 1).toNat = repF xs ys n 0 most.toNat) := by
                have h := HREP.out
                rw [HF1.out, repF_line xs ys f k q hq HNE.out] at h
                have hl : lineL k xs[k]? ys[k]? = dl ++ [58, 32] ++ sx ++ [32, 47, 32] ++ sy ++ ([]) ++ [10] := by
                  unfold lineL
                  rw [HTL.out, hdl, hsx, hsy]
                rw [hl, ← List.append_assoc] at h
                exact h
              have CD : Hid (∀ W : World, Calls Try.prog 75 #[.int .u64 k] W fun e w' => e = .returned (.string ⟨dl.toArray⟩) ∧ Below W.heap.size W w') := fun W => by rw [hdl]; exact Dec_decL k W (by omega)
              have CX : Hid (∀ W : World, Below w.heap.size w W → Calls Try.prog 125 #[.slice (some ad) n c, .int .i64 k] W fun e w' => e = .returned (.string ⟨sx.toArray⟩) ∧ Below W.heap.size W w') := fun W hb => by rw [hsx]; exact HSX.out W k hb (by omega)
              have CY : Hid (∀ W : World, Below w.heap.size w W → Calls Try.prog 125 #[.slice A2 n2 c2, .int .i64 k] W fun e w' => e = .returned (.string ⟨sy.toArray⟩) ∧ Below W.heap.size W w') := fun W hb => by rw [hsy]; exact HSY.out W k hb (by omega)
              clear hdl hsx hsy HTL HNE
              clear HCX
              go_wp2_with fail
              go_quiet (fail)
              have hbl1 := below_drewN hbl nq
              replace hb := hb.below (w' := wr.drewN nq) (below_drewN (Below.refl _ _) nq)
              generalize wr.drewN nq = w1 at *
              go_wp2_with fail
              refine (CD.out w1).mono ?_
              rintro e w2 ⟨rfl, hb2⟩
              replace hb := hb.below hb2
              have hbl2 := below_then hbl1 hb2
              go_wp2_with fail
              refine (CX.out w2 hbl2).mono ?_
              rintro e w3 ⟨rfl, hb3⟩
              replace hb := hb.below hb3
              have hbl3 := below_then hbl2 hb3
              go_wp2_with fail
              refine (CY.out w3 hbl3).mono ?_
              rintro e w4 ⟨rfl, hb4⟩
              replace hb := hb.below hb4
              have hbl4 := below_then hbl3 hb4
              clear hb2 hb3 hb4 hbl1 hbl2 hbl3 CD CX CY
              go_wp2_with fail
              refine (WStringE w.heap.size w.heap.size out _ (dl ++ [58, 32] ++ sx ++ [32, 47, 32] ++ sy ++ [] ++ [10]) w4 (by apply ByteArray.ext; simp) hb (by simp only [List.length_append, List.length_cons, List.length_nil]; omega) hbl4.size).mono ?_
              rintro e w6 ⟨⟨v6, rfl⟩, hb6, hbl6⟩
              go_wp2_with fail
              go_roundw
              case rel => exact ⟨k + 1, q - 1, _, by omega, by go_num, by go_num, by omega, by omega, by simp only [List.length_append, List.length_cons, List.length_nil]; omega, hb6, by rw [show n - (k + 1) = f by have := HF1.out; omega]; exact HST.out, hbl4.trans hbl6⟩
              case measure => simp [intOf]; omega
          · exact absurd hkN (by omega)
        · obtain rfl : k = n := by omega
          have HEN : Hid (out = repF xs ys k 0 most.toNat) := by
            have h := HREP.out
            rw [Nat.sub_self] at h
            exact (List.append_nil out).symm.trans h
          clear hkN
          go_wp2_with fail
          refine (BString w.heap.size w.heap.size out wr hb hbl.size).mono ?_
          rintro e w4 ⟨rfl, hb4⟩
          go_wp2
          go_ret
          rw [HEN.out]
          exact ⟨rfl, hbl.trans hb4⟩
      · have HEN : Hid (out = repF xs ys n 0 most.toNat) := by
          have h := HREP.out
          rw [show q.toNat = 0 by omega, repF_zero, List.append_nil] at h
          exact h
        have hqI : decide ((0 : Int) < q) = false := decide_eq_false hq
        go_wp2_with fail
        all_goals
          refine (BString w.heap.size w.heap.size out wr hb hbl.size).mono ?_
          rintro e w4 ⟨rfl, hb4⟩
          go_wp2
          go_ret
          rw [HEN.out]
          exact ⟨rfl, hbl.trans hb4⟩
end Go.Proofs.Ytgebopmiefgdoaa

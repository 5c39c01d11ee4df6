/-
  The walk of the law DifferHolds: for every two traces and every bound it returns true.
-/
import Derived.Test.YtgebopmiefgdoaaDifferSame
import Derived.Test.YtgebopmiefgdoaaHoldsLaw
import Derived.Test.YtgebopmiefgdoaaOwnRecs
import Derived.Test.YtgebopmiefgdoaaFields51
import Derived.Test.YtgebopmiefgdoaaDigit2
namespace Go.Proofs.Ytgebopmiefgdoaa
open Go.RowKit
theorem EqRecSame2 (ys : List Rec) (A A2 : Option Addr) (n c n2 c2 B B2 : Nat) (w : World) (hr : Reads w B 9 A n (recsV ys)) (hr2 : Reads w B2 9 A2 n2 (recsV ys)) (hn : n ≤ 4611686018427387904) (hn2 : n2 ≤ 4611686018427387904) :
    Calls Try.prog 53 #[.slice A n c, .slice A2 n2 c2] w fun e w' => e = .returned (.bool true) ∧ Below w.heap.size w w' := by
  have h := EqRec_any ys ys A A2 n c n2 c2 B B2 w hr hr2 hn hn2
  rw [decide_eq_true rfl] at h
  exact h
set_option maxRecDepth 100000 in
set_option maxHeartbeats 16000000 in
theorem DifferHolds_walk (w : World) (a : Sl Rec) (ga : a.Good w 9 Rec.cells Rec.Good) (b : Sl Rec) (gb : b.Good w 9 Rec.cells Rec.Good) (most : Int) (gm : IntKind.i64.min ≤ most ∧ most ≤ IntKind.i64.max) :
    Calls Try.prog 19 #[a.v, b.v, .int .i64 most] w fun e w' => e = .returned (.bool true) ∧ Below w.heap.size w w' := by
  obtain ⟨A, n, c, xs⟩ := a
  obtain ⟨_, _, hr0, hlen, hall⟩ := ga
  obtain ⟨A2, n2, c2, ys⟩ := b
  obtain ⟨_, _, hr20, hlen2, hall2⟩ := gb
  dsimp only [Sl.v] at *
  have hr : Reads w w.heap.size 9 A n (recsV xs) := hr0
  have hr2 : Reads w w.heap.size 9 A2 n2 (recsV ys) := hr20
  have hl1 : xs.length = n := hlen
  have hl2 : ys.length = n2 := hlen2
  simp [IntKind.min, IntKind.max, IntKind.signed, IntKind.bits] at gm
  obtain ⟨m0, m1⟩ := gm
  obtain ⟨i0, hi, hz0, hz1, hz2⟩ := info_parts info_rec
  clear hr0 hr20 hlen hlen2
  by_cases hbig : 100 < n
  · go_enter Try.func19, Try.ntmps19
    go_wp2
    go_ret
    exact ⟨rfl, Below.refl _ _⟩
  by_cases hbig2 : 100 < n2
  · go_enter Try.func19, Try.ntmps19
    go_wp2
    go_ret
    exact ⟨rfl, Below.refl _ _⟩
  obtain ⟨N, hNd⟩ : ∃ N, N = max n n2 := ⟨_, rfl⟩
  have hNm : N = max xs.length ys.length := by rw [hl1, hl2]; exact hNd
  have hN100 : N ≤ 100 := by omega
  have HNM := Lib.hid hNm
  have HX := Lib.hid hl1
  have HY := Lib.hid hl2
  have HG := Lib.hid hall
  have HG2 := Lib.hid hall2
  have hNn : n ≤ N := by omega
  have hNn2 : n2 ≤ N := by omega
  have hNo : N = n ∨ N = n2 := by omega
  have HNO := Lib.hid hNo
  have HND := Lib.hid hNd
  clear hNm hl1 hl2 hall hall2 hNd hNo
  go_enter Try.func19, Try.ntmps19
  go_wp2_with fail
  go_loopw [7, 8, 9, 10] (fun f0 q0 s i wr => ∃ (k : Nat) (F q : Int) (T : List UInt8), k ≤ N ∧ i = .int .i64 k ∧ f0 = .int .i64 F ∧ q0 = .int .i64 q ∧ s = .string ⟨T.toArray⟩ ∧ HoldsAt xs ys N most k F q T ∧ Below w.heap.size w wr) (fun _ _ _ i _ => N - (intOf i).toNat)
  case atStart => exact ⟨0, -1, 0, [], by omega, rfl, rfl, rfl, rfl, ⟨.inl ⟨rfl, rfl⟩, by simp, by omega, by omega, by simp, by simp, by omega, by omega⟩, Below.refl _ _⟩
  case round =>
    obtain ⟨k, F, q, T, hk, rfl, rfl, rfl, rfl, hA, hbl⟩ := hrel
    have HA := Lib.hid hA
    have hTl : T.length ≤ 1000 * k := hA.2.2.2.2.2.1
    have hF1 : F ≤ k := hA.2.2.2.2.2.2.1
    have hF2 : -1 ≤ F := hA.2.2.2.2.2.2.2
    have hq1 : 0 ≤ q := hA.2.2.1
    have hq2 : q ≤ k := hA.2.2.2.1
    have hbs := hbl.size
    clear hA
    by_cases hk1 : k < n
    · have hkN : k < N := by omega
      have hk1I : (k : Int) < (n : Int) := by omega
      obtain ⟨ad, x, rfl, had, hx, hc0⟩ := rec_at hr hk1
      have gx := HG.out x (List.mem_of_getElem? hx)
      have HTX := Lib.hid (RTextR_any x gx)
      have HCX : Hid (∀ W : World, Below w.heap.size w W → ∀ j v, ([.int .u16 x.addr, .int .u8 x.data, .bool x.read, .bool x.ba, .bool x.bs, .bool x.lic, .bool x.avma, .bool x.busy, .bool x.mine] : List Value)[j]? = some v → W.cell? ((ad.add (k * 9)).add j) = some v) := fun W hb j v hv => (hb.cell (by rw [block_of_add, block_of_add]; exact had)).trans (hc0 j v hv)
      have hxl : x.txt.length = 17 := rfl
      have HXK := Lib.hid hx
      clear hc0 gx hx
      by_cases hk2 : k < n2
      · have hk2I : (k : Int) < (n2 : Int) := by omega
        obtain ⟨ad2, y, rfl, had2, hy, hc20⟩ := rec_at hr2 hk2
        have gy := HG2.out y (List.mem_of_getElem? hy)
        have HTY := Lib.hid (RTextR_any y gy)
        have HCY : Hid (∀ W : World, Below w.heap.size w W → ∀ j v, ([.int .u16 y.addr, .int .u8 y.data, .bool y.read, .bool y.ba, .bool y.bs, .bool y.lic, .bool y.avma, .bool y.busy, .bool y.mine] : List Value)[j]? = some v → W.cell? ((ad2.add (k * 9)).add j) = some v) := fun W hb j v hv => (hb.cell (by rw [block_of_add, block_of_add]; exact had2)).trans (hc20 j v hv)
        have hyl : y.txt.length = 17 := rfl
        have HYK := Lib.hid hy
        clear hc20 gy hy
        have heql := eql_rec x y
        by_cases hxy : x = y
        · have HS := Lib.hid (holds_same xs ys N most k F q T x y hkN HXK.out HYK.out hxy HA.out)
          rw [decide_eq_true hxy] at heql
          have HEQ := Lib.hid heql
          clear hxy heql
          go_wp2_with (first | (refine wpList_load_at rfl 64 (.tmp 42) rfl (ad.add (k * 9)) rfl [.int .u16 x.addr, .int .u8 x.data, .bool x.read, .bool x.ba, .bool x.bs, .bool x.lic, .bool x.avma, .bool x.busy, .bool x.mine] _ (HCX.out _ hbl) Try.underlying64 rfl (by kernel_rfl) ?_) | fail)
          refine (HTX.out _).mono ?_
          rintro e w3 ⟨rfl, hb3⟩
          have hbl3 := below_then hbl hb3
          clear hb3
          go_wp2_with (first | (refine wpList_load_at rfl 64 (.tmp 51) rfl (ad2.add (k * 9)) rfl [.int .u16 y.addr, .int .u8 y.data, .bool y.read, .bool y.ba, .bool y.bs, .bool y.lic, .bool y.avma, .bool y.busy, .bool y.mine] _ (HCY.out _ hbl3) Try.underlying64 rfl (by kernel_rfl) ?_) | fail)
          refine (HTY.out _).mono ?_
          rintro e w4 ⟨rfl, hb4⟩
          have hbl4 := below_then hbl3 hb4
          clear hb4 hbl3
          go_wp2_with fail
          obtain ⟨p0, p1, p2, p3, p4, p5, p6, p7, p8⟩ := rec_cells (y := x) (HCX.out w4 hbl4)
          obtain ⟨q0, q1, q2, q3, q4, q5, q6, q7, q8⟩ := rec_cells (y := y) (HCY.out w4 hbl4)
          have heql := HEQ.out
          go_quiet (fail)
          go_wp2_with fail
          go_roundw
          case rel => exact ⟨k + 1, F, q, T, by omega, by go_num, rfl, rfl, rfl, HS.out, below_drewN hbl4 _⟩
          case measure => simp [intOf]; omega
        · have HNE : Hid (xs[k]? ≠ ys[k]?) := by
            show xs[k]? ≠ ys[k]?
            rw [HXK.out, HYK.out]
            exact fun e => hxy (Option.some.inj e)
          rw [decide_eq_false hxy] at heql
          have HEQ := Lib.hid heql
          clear hxy heql
          have HLINE : lineL k xs[k]? ys[k]? = decL k ++ [58, 32] ++ x.txt ++ [32, 47, 32] ++ y.txt ++ (32 :: fieldsL x y) ++ [10] := by
            unfold lineL
            rw [HXK.out, HYK.out]
            rfl
          have HLN := Lib.hid HLINE
          clear HLINE
          have HPX := Lib.hid (fun W (hb : Below w.heap.size w W) => rec_cells (y := x) (HCX.out W hb))
          have HPY := Lib.hid (fun W (hb : Below w.heap.size w W) => rec_cells (y := y) (HCY.out W hb))
          have HFI := Lib.hid (Fields_any x y)
          have HF51 := Lib.hid (Fields51_any x y)
          have hfl := fieldsL_len x y
          go_wp2_with (first | (refine wpList_load_at rfl 64 (.tmp 42) rfl (ad.add (k * 9)) rfl [.int .u16 x.addr, .int .u8 x.data, .bool x.read, .bool x.ba, .bool x.bs, .bool x.lic, .bool x.avma, .bool x.busy, .bool x.mine] _ (HCX.out _ hbl) Try.underlying64 rfl (by kernel_rfl) ?_) | fail)
          refine (HTX.out _).mono ?_
          rintro e w3 ⟨rfl, hb3⟩
          have hbl3 := below_then hbl hb3
          clear hb3
          go_wp2_with (first | (refine wpList_load_at rfl 64 (.tmp 51) rfl (ad2.add (k * 9)) rfl [.int .u16 y.addr, .int .u8 y.data, .bool y.read, .bool y.ba, .bool y.bs, .bool y.lic, .bool y.avma, .bool y.busy, .bool y.mine] _ (HCY.out _ hbl3) Try.underlying64 rfl (by kernel_rfl) ?_) | fail)
          refine (HTY.out _).mono ?_
          rintro e w4 ⟨rfl, hb4⟩
          have hbl4 := below_then hbl3 hb4
          clear hb4 hbl3
          go_wp2_with fail
          obtain ⟨p0, p1, p2, p3, p4, p5, p6, p7, p8⟩ := rec_cells (y := x) (HCX.out w4 hbl4)
          obtain ⟨q0, q1, q2, q3, q4, q5, q6, q7, q8⟩ := rec_cells (y := y) (HCY.out w4 hbl4)
          have heql := HEQ.out
          go_quiet (fail)
          go_wp2_with fail
          have hbl5 := below_drewN hbl4 nq
          clear hbl4 heql p0 p1 p2 p3 p4 p5 p6 p7 p8 q0 q1 q2 q3 q4 q5 q6 q7 q8
          generalize w4.drewN nq = w5 at *
          generalize fieldsL x y = fl at *
          obtain ⟨p0, p1, p2, p3, p4, p5, p6, p7, p8⟩ := rec_cells (y := x) (HCX.out w5 hbl5)
          obtain ⟨q0, q1, q2, q3, q4, q5, q6, q7, q8⟩ := rec_cells (y := y) (HCY.out w5 hbl5)
          go_region_with ((go_at_call 103; with_reducible refine (HF51.out _).mono ?_; rintro e w6 ⟨rfl, hb6⟩))
          all_goals
            have hbl6 := below_then (w1 := w5.drew) (below_drewN hbl5 1) hb6
            clear p0 p1 p2 p3 p4 p5 p6 p7 p8 q0 q1 q2 q3 q4 q5 q6 q7 q8 hb6
            go_wp2_with fail
            obtain ⟨p0, p1, p2, p3, p4, p5, p6, p7, p8⟩ := rec_cells (y := x) (HCX.out w6 hbl6)
            obtain ⟨q0, q1, q2, q3, q4, q5, q6, q7, q8⟩ := rec_cells (y := y) (HCY.out w6 hbl6)
            have hs6 := hbl6.size
            have hPd : (ad.add (k * 9)).block < w6.drew.heap.size := by
              rw [block_of_add]
              have : ad.block < w6.heap.size := by omega
              simpa using this
            have hQd : (ad2.add (k * 9)).block < w6.drew.heap.size := by
              rw [block_of_add]
              have : ad2.block < w6.heap.size := by omega
              simpa using this
            go_region_held3 (fun w' => w'.cell? (ad.add (k * 9)) = some (.int .u16 x.addr) ∧ w'.cell? ⟨(ad.add (k * 9)).block, (ad.add (k * 9)).off + 1, none⟩ = some (.int .u8 x.data) ∧ w'.cell? ⟨(ad.add (k * 9)).block, (ad.add (k * 9)).off + 2, none⟩ = some (.bool x.read) ∧ w'.cell? ⟨(ad.add (k * 9)).block, (ad.add (k * 9)).off + 3, none⟩ = some (.bool x.ba) ∧ w'.cell? ⟨(ad.add (k * 9)).block, (ad.add (k * 9)).off + 4, none⟩ = some (.bool x.bs) ∧ w'.cell? ⟨(ad.add (k * 9)).block, (ad.add (k * 9)).off + 5, none⟩ = some (.bool x.lic) ∧ w'.cell? ⟨(ad.add (k * 9)).block, (ad.add (k * 9)).off + 6, none⟩ = some (.bool x.avma) ∧ w'.cell? ⟨(ad.add (k * 9)).block, (ad.add (k * 9)).off + 7, none⟩ = some (.bool x.busy) ∧ w'.cell? ⟨(ad.add (k * 9)).block, (ad.add (k * 9)).off + 8, none⟩ = some (.bool x.mine) ∧ w'.cell? (ad2.add (k * 9)) = some (.int .u16 y.addr) ∧ w'.cell? ⟨(ad2.add (k * 9)).block, (ad2.add (k * 9)).off + 1, none⟩ = some (.int .u8 y.data) ∧ w'.cell? ⟨(ad2.add (k * 9)).block, (ad2.add (k * 9)).off + 2, none⟩ = some (.bool y.read) ∧ w'.cell? ⟨(ad2.add (k * 9)).block, (ad2.add (k * 9)).off + 3, none⟩ = some (.bool y.ba) ∧ w'.cell? ⟨(ad2.add (k * 9)).block, (ad2.add (k * 9)).off + 4, none⟩ = some (.bool y.bs) ∧ w'.cell? ⟨(ad2.add (k * 9)).block, (ad2.add (k * 9)).off + 5, none⟩ = some (.bool y.lic) ∧ w'.cell? ⟨(ad2.add (k * 9)).block, (ad2.add (k * 9)).off + 6, none⟩ = some (.bool y.avma) ∧ w'.cell? ⟨(ad2.add (k * 9)).block, (ad2.add (k * 9)).off + 7, none⟩ = some (.bool y.busy) ∧ w'.cell? ⟨(ad2.add (k * 9)).block, (ad2.add (k * 9)).off + 8, none⟩ = some (.bool y.mine)) (first | (go_keep; done)) (first | (go_at_call 104; with_reducible refine (HFI.out _).mono ?_; rintro e w7 ⟨rfl, hb7⟩; have hP7 := Nat.lt_of_lt_of_le hPd hb7.size; have hQ7 := Nat.lt_of_lt_of_le hQd hb7.size; have r0 := hb7.cell (p := (ad.add (k * 9))) hPd; have r1 := hb7.cell (p := ⟨(ad.add (k * 9)).block, (ad.add (k * 9)).off + 1, none⟩) hPd; have r2 := hb7.cell (p := ⟨(ad.add (k * 9)).block, (ad.add (k * 9)).off + 2, none⟩) hPd; have r3 := hb7.cell (p := ⟨(ad.add (k * 9)).block, (ad.add (k * 9)).off + 3, none⟩) hPd; have r4 := hb7.cell (p := ⟨(ad.add (k * 9)).block, (ad.add (k * 9)).off + 4, none⟩) hPd; have r5 := hb7.cell (p := ⟨(ad.add (k * 9)).block, (ad.add (k * 9)).off + 5, none⟩) hPd; have r6 := hb7.cell (p := ⟨(ad.add (k * 9)).block, (ad.add (k * 9)).off + 6, none⟩) hPd; have r7 := hb7.cell (p := ⟨(ad.add (k * 9)).block, (ad.add (k * 9)).off + 7, none⟩) hPd; have r8 := hb7.cell (p := ⟨(ad.add (k * 9)).block, (ad.add (k * 9)).off + 8, none⟩) hPd; have r9 := hb7.cell (p := (ad2.add (k * 9))) hQd; have r10 := hb7.cell (p := ⟨(ad2.add (k * 9)).block, (ad2.add (k * 9)).off + 1, none⟩) hQd; have r11 := hb7.cell (p := ⟨(ad2.add (k * 9)).block, (ad2.add (k * 9)).off + 2, none⟩) hQd; have r12 := hb7.cell (p := ⟨(ad2.add (k * 9)).block, (ad2.add (k * 9)).off + 3, none⟩) hQd; have r13 := hb7.cell (p := ⟨(ad2.add (k * 9)).block, (ad2.add (k * 9)).off + 4, none⟩) hQd; have r14 := hb7.cell (p := ⟨(ad2.add (k * 9)).block, (ad2.add (k * 9)).off + 5, none⟩) hQd; have r15 := hb7.cell (p := ⟨(ad2.add (k * 9)).block, (ad2.add (k * 9)).off + 6, none⟩) hQd; have r16 := hb7.cell (p := ⟨(ad2.add (k * 9)).block, (ad2.add (k * 9)).off + 7, none⟩) hQd; have r17 := hb7.cell (p := ⟨(ad2.add (k * 9)).block, (ad2.add (k * 9)).off + 8, none⟩) hQd) | (go_at_call 103; with_reducible refine (HF51.out _).mono ?_; rintro e w8 ⟨rfl, hb8⟩; have s0 := hb8.cell (p := (ad.add (k * 9))) hP7; have s1 := hb8.cell (p := ⟨(ad.add (k * 9)).block, (ad.add (k * 9)).off + 1, none⟩) hP7; have s2 := hb8.cell (p := ⟨(ad.add (k * 9)).block, (ad.add (k * 9)).off + 2, none⟩) hP7; have s3 := hb8.cell (p := ⟨(ad.add (k * 9)).block, (ad.add (k * 9)).off + 3, none⟩) hP7; have s4 := hb8.cell (p := ⟨(ad.add (k * 9)).block, (ad.add (k * 9)).off + 4, none⟩) hP7; have s5 := hb8.cell (p := ⟨(ad.add (k * 9)).block, (ad.add (k * 9)).off + 5, none⟩) hP7; have s6 := hb8.cell (p := ⟨(ad.add (k * 9)).block, (ad.add (k * 9)).off + 6, none⟩) hP7; have s7 := hb8.cell (p := ⟨(ad.add (k * 9)).block, (ad.add (k * 9)).off + 7, none⟩) hP7; have s8 := hb8.cell (p := ⟨(ad.add (k * 9)).block, (ad.add (k * 9)).off + 8, none⟩) hP7; have s9 := hb8.cell (p := (ad2.add (k * 9))) hQ7; have s10 := hb8.cell (p := ⟨(ad2.add (k * 9)).block, (ad2.add (k * 9)).off + 1, none⟩) hQ7; have s11 := hb8.cell (p := ⟨(ad2.add (k * 9)).block, (ad2.add (k * 9)).off + 2, none⟩) hQ7; have s12 := hb8.cell (p := ⟨(ad2.add (k * 9)).block, (ad2.add (k * 9)).off + 3, none⟩) hQ7; have s13 := hb8.cell (p := ⟨(ad2.add (k * 9)).block, (ad2.add (k * 9)).off + 4, none⟩) hQ7; have s14 := hb8.cell (p := ⟨(ad2.add (k * 9)).block, (ad2.add (k * 9)).off + 5, none⟩) hQ7; have s15 := hb8.cell (p := ⟨(ad2.add (k * 9)).block, (ad2.add (k * 9)).off + 6, none⟩) hQ7; have s16 := hb8.cell (p := ⟨(ad2.add (k * 9)).block, (ad2.add (k * 9)).off + 7, none⟩) hQ7; have s17 := hb8.cell (p := ⟨(ad2.add (k * 9)).block, (ad2.add (k * 9)).off + 8, none⟩) hQ7))
            all_goals
              have hbl8 := below_then (below_then (w1 := w6.drew) (below_drewN hbl6 1) hb7) hb8
              clear p0 p1 p2 p3 p4 p5 p6 p7 p8 q0 q1 q2 q3 q4 q5 q6 q7 q8 hb8 hb7 r0 s0 r1 s1 r2 s2 r3 s3 r4 s4 r5 s5 r6 s6 r7 s7 r8 s8 r9 s9 r10 s10 r11 s11 r12 s12 r13 s13 r14 s14 r15 s15 r16 s16 r17 s17
              have HL : Hid (lineL k xs[k]? ys[k]? = decL k ++ [58, 32] ++ x.txt ++ [32, 47, 32] ++ y.txt ++ (32 :: fl) ++ [10]) := HLN.out
              have HH := Lib.hid (holds_differ xs ys N most k F q T hkN HNM.out (by omega) HNE.out HA.out)
              obtain ⟨dl, hdl⟩ : ∃ d, d = decL k := ⟨_, rfl⟩
              have hdll : dl.length ≤ 20 := by rw [hdl]; exact decL_len k (by omega)
              have HDG : Hid (∀ W : World, Calls Try.prog 76 #[.int .u64 k, .int .u64 10, .int .i64 1] W fun e w' => e = .returned (.string ⟨dl.toArray⟩) ∧ W = w') := fun W => by
                rw [hdl]
                exact Digits10_any k 1 20 W (by omega) (by omega) (by omega) (by omega) (by omega) (by omega)
              have HL2 : Hid (lineL k xs[k]? ys[k]? = dl ++ [58, 32] ++ x.txt ++ [32, 47, 32] ++ y.txt ++ (32 :: fl) ++ [10]) := by
                show lineL k xs[k]? ys[k]? = dl ++ [58, 32] ++ x.txt ++ [32, 47, 32] ++ y.txt ++ (32 :: fl) ++ [10]
                rw [hdl]; exact HL.out
              clear hdl HL
              by_cases hF : F < 0
              all_goals
                by_cases hq : q < most
                all_goals
                  first | rw [if_pos hF] at HH | rw [if_neg hF] at HH
                  first | rw [if_pos hq] at HH | rw [if_neg hq] at HH
                  try (have hF' : (0 : Int) ≤ F := by omega)
                  try (have hq' : most ≤ q := by omega)
                  go_wp2_with ((go_at_call 76; with_reducible refine (HDG.out _).mono ?_; rintro e wd ⟨rfl, rfl⟩))
                  go_roundw
                  case rel =>
                    first
                      | exact ⟨k + 1, _, q + 1, _, by omega, by go_num, rfl, rfl, rfl, HH.out, hbl8⟩
                      | exact ⟨k + 1, _, q + 1, _, by omega, by go_num, rfl, rfl, congrArg Value.string (by rw [HL2.out]; apply ByteArray.ext; simp), HH.out, hbl8⟩
                  case measure => simp [intOf]; omega
      · have hk2I : (n2 : Int) ≤ (k : Int) := by omega
        have hyn : ys[k]? = none := List.getElem?_eq_none (by rw [HY.out]; omega)
        have HNE : Hid (xs[k]? ≠ ys[k]?) := by
          intro e
          rw [HXK.out, hyn] at e
          cases e
        have HLINE : lineL k xs[k]? ys[k]? = decL k ++ [58, 32] ++ x.txt ++ [32, 47, 32] ++ [45] ++ [] ++ [10] := by
          unfold lineL
          rw [HXK.out, hyn]
          rfl
        have HLN := Lib.hid HLINE
        clear HLINE hyn
        have hd2 : decide ((k : Int) < (n2 : Int)) = false := decide_eq_false (by omega)
        go_wp2_with (first | (refine wpList_load_at rfl 64 (.tmp 42) rfl (ad.add (k * 9)) rfl [.int .u16 x.addr, .int .u8 x.data, .bool x.read, .bool x.ba, .bool x.bs, .bool x.lic, .bool x.avma, .bool x.busy, .bool x.mine] _ (HCX.out _ hbl) Try.underlying64 rfl (by kernel_rfl) ?_) | fail)
        refine (HTX.out _).mono ?_
        rintro e w4 ⟨rfl, hb4⟩
        have hbl4 := below_then hbl hb4
        clear hb4
        have HL : Hid (lineL k xs[k]? ys[k]? = decL k ++ [58, 32] ++ x.txt ++ [32, 47, 32] ++ [45] ++ [] ++ [10]) := HLN.out
        have HH := Lib.hid (holds_differ xs ys N most k F q T hkN HNM.out (by omega) HNE.out HA.out)
        obtain ⟨dl, hdl⟩ : ∃ d, d = decL k := ⟨_, rfl⟩
        have hdll : dl.length ≤ 20 := by rw [hdl]; exact decL_len k (by omega)
        have HDG : Hid (∀ W : World, Calls Try.prog 76 #[.int .u64 k, .int .u64 10, .int .i64 1] W fun e w' => e = .returned (.string ⟨dl.toArray⟩) ∧ W = w') := fun W => by
          rw [hdl]
          exact Digits10_any k 1 20 W (by omega) (by omega) (by omega) (by omega) (by omega) (by omega)
        have HL2 : Hid (lineL k xs[k]? ys[k]? = dl ++ [58, 32] ++ x.txt ++ [32, 47, 32] ++ [45] ++ [] ++ [10]) := by
          show lineL k xs[k]? ys[k]? = dl ++ [58, 32] ++ x.txt ++ [32, 47, 32] ++ [45] ++ [] ++ [10]
          rw [hdl]; exact HL.out
        clear hdl HL
        by_cases hF : F < 0
        all_goals
          by_cases hq : q < most
          all_goals
            first | rw [if_pos hF] at HH | rw [if_neg hF] at HH
            first | rw [if_pos hq] at HH | rw [if_neg hq] at HH
            try (have hF' : (0 : Int) ≤ F := by omega)
            try (have hq' : most ≤ q := by omega)
            go_wp2_with ((go_at_call 76; with_reducible refine (HDG.out _).mono ?_; rintro e wd ⟨rfl, rfl⟩))
            go_roundw
            case rel =>
              first
                | exact ⟨k + 1, _, q + 1, _, by omega, by go_num, rfl, rfl, rfl, HH.out, hbl4⟩
                | exact ⟨k + 1, _, q + 1, _, by omega, by go_num, rfl, rfl, congrArg Value.string (by rw [HL2.out]; apply ByteArray.ext; simp), HH.out, hbl4⟩
            case measure => simp [intOf]; omega
    · have hk1I : (n : Int) ≤ (k : Int) := by omega
      have hd1 : decide ((k : Int) < (n : Int)) = false := decide_eq_false (by omega)
      by_cases hk2 : k < n2
      · have hkN : k < N := by omega
        have hk2I : (k : Int) < (n2 : Int) := by omega
        obtain ⟨ad2, y, rfl, had2, hy, hc20⟩ := rec_at hr2 hk2
        have gy := HG2.out y (List.mem_of_getElem? hy)
        have HTY := Lib.hid (RTextR_any y gy)
        have HCY : Hid (∀ W : World, Below w.heap.size w W → ∀ j v, ([.int .u16 y.addr, .int .u8 y.data, .bool y.read, .bool y.ba, .bool y.bs, .bool y.lic, .bool y.avma, .bool y.busy, .bool y.mine] : List Value)[j]? = some v → W.cell? ((ad2.add (k * 9)).add j) = some v) := fun W hb j v hv => (hb.cell (by rw [block_of_add, block_of_add]; exact had2)).trans (hc20 j v hv)
        have hyl : y.txt.length = 17 := rfl
        have hxn : xs[k]? = none := List.getElem?_eq_none (by rw [HX.out]; omega)
        have HNE : Hid (xs[k]? ≠ ys[k]?) := by
          intro e
          rw [hy, hxn] at e
          cases e
        have HLINE : lineL k xs[k]? ys[k]? = decL k ++ [58, 32] ++ [45] ++ [32, 47, 32] ++ y.txt ++ [] ++ [10] := by
          unfold lineL
          rw [hy, hxn]
          rfl
        have HLN := Lib.hid HLINE
        clear hc20 gy hy HLINE hxn
        go_wp2_with (first | (refine wpList_load_at rfl 64 (.tmp 51) rfl (ad2.add (k * 9)) rfl [.int .u16 y.addr, .int .u8 y.data, .bool y.read, .bool y.ba, .bool y.bs, .bool y.lic, .bool y.avma, .bool y.busy, .bool y.mine] _ (HCY.out _ hbl) Try.underlying64 rfl (by kernel_rfl) ?_) | fail)
        refine (HTY.out _).mono ?_
        rintro e w4 ⟨rfl, hb4⟩
        have hbl4 := below_then hbl hb4
        clear hb4
        have HL : Hid (lineL k xs[k]? ys[k]? = decL k ++ [58, 32] ++ [45] ++ [32, 47, 32] ++ y.txt ++ [] ++ [10]) := HLN.out
        have HH := Lib.hid (holds_differ xs ys N most k F q T hkN HNM.out (by omega) HNE.out HA.out)
        obtain ⟨dl, hdl⟩ : ∃ d, d = decL k := ⟨_, rfl⟩
        have hdll : dl.length ≤ 20 := by rw [hdl]; exact decL_len k (by omega)
        have HDG : Hid (∀ W : World, Calls Try.prog 76 #[.int .u64 k, .int .u64 10, .int .i64 1] W fun e w' => e = .returned (.string ⟨dl.toArray⟩) ∧ W = w') := fun W => by
          rw [hdl]
          exact Digits10_any k 1 20 W (by omega) (by omega) (by omega) (by omega) (by omega) (by omega)
        have HL2 : Hid (lineL k xs[k]? ys[k]? = dl ++ [58, 32] ++ [45] ++ [32, 47, 32] ++ y.txt ++ [] ++ [10]) := by
          show lineL k xs[k]? ys[k]? = dl ++ [58, 32] ++ [45] ++ [32, 47, 32] ++ y.txt ++ [] ++ [10]
          rw [hdl]; exact HL.out
        clear hdl HL
        by_cases hF : F < 0
        all_goals
          by_cases hq : q < most
          all_goals
            first | rw [if_pos hF] at HH | rw [if_neg hF] at HH
            first | rw [if_pos hq] at HH | rw [if_neg hq] at HH
            try (have hF' : (0 : Int) ≤ F := by omega)
            try (have hq' : most ≤ q := by omega)
            go_wp2_with ((go_at_call 76; with_reducible refine (HDG.out _).mono ?_; rintro e wd ⟨rfl, rfl⟩))
            go_roundw
            case rel =>
              first
                | exact ⟨k + 1, _, q + 1, _, by omega, by go_num, rfl, rfl, rfl, HH.out, hbl4⟩
                | exact ⟨k + 1, _, q + 1, _, by omega, by go_num, rfl, rfl, congrArg Value.string (by rw [HL2.out]; apply ByteArray.ext; simp), HH.out, hbl4⟩
            case measure => simp [intOf]; omega
      · obtain rfl : k = N := by rcases HNO.out with h | h <;> omega
        have hd2 : decide ((k : Int) < (n2 : Int)) = false := decide_eq_false (by omega)
        have hk2I : (n2 : Int) ≤ (k : Int) := by omega
        obtain ⟨hFe, hqe, hTe⟩ := holds_end xs ys k most F q T (by rw [HX.out]; omega) (by rw [HY.out]; omega) HA.out
        have HFE := Lib.hid hFe
        have HQE := Lib.hid hqe
        have HTE := Lib.hid hTe
        clear hFe hqe hTe
        have HFIR : Hid (∀ W : World, Below w.heap.size w W → Calls Try.prog 99 #[.slice A n c, .slice A2 n2 c2] W fun e w' => e = .returned (.int .i64 F) ∧ Below W.heap.size W w') := fun W hb => by
          rw [HFE.out]; exact First_any xs ys A A2 n c n2 c2 _ _ W (hr.below hb) (hr2.below hb) (by omega) (by omega)
        have HCNT : Hid (∀ W : World, Below w.heap.size w W → Calls Try.prog 100 #[.slice A n c, .slice A2 n2 c2] W fun e w' => e = .returned (.int .i64 q) ∧ Below W.heap.size W w') := fun W hb => by
          rw [HQE.out]; exact Count_any xs ys A A2 n c n2 c2 _ _ W (hr.below hb) (hr2.below hb) (by omega) (by omega)
        have HREP : Hid (∀ W : World, Below w.heap.size w W → Calls Try.prog 101 #[.int .i64 most, .slice A n c, .slice A2 n2 c2] W fun e w' => e = .returned (.string ⟨T.toArray⟩) ∧ Below W.heap.size W w') := fun W hb => by
          rw [HTE.out, HND.out]; exact Report_any most xs ys A A2 n c n2 c2 W ((hr.below hb).more hb.size) ((hr2.below hb).more hb.size) HG.out HG2.out (by omega) (by omega) (by omega) (by omega)
        have HOWN : Hid (∀ W : World, Below w.heap.size w W → Calls Try.prog 105 #[.slice A n c] W fun e w' => ∃ v, e = .returned v ∧ w'.ownsRow W.heap.size 64 9 v (ownL xs).length (recsV (ownL xs)) ∧ Below W.heap.size W w') := fun W hb => Own_any xs A n c w.heap.size W hb.size (hr.below hb) (by omega)
        have hol := ownL_len xs n
        rw [List.take_of_length_le (by rw [HX.out]; exact Nat.le_refl _)] at hol
        clear HFE HQE HTE
        go_wp2_with fail
        go_loopw [14, 15] (fun v i wr => ∃ j : Nat, j ≤ n ∧ i = .int .i64 j ∧ wr.ownsRow w.heap.size 64 9 v (ownL (xs.take j)).length (recsV (ownL (xs.take j))) ∧ Below w.heap.size w wr) (fun _ i _ => n - (intOf i).toNat)
        case atStart => exact ⟨0, by omega, rfl, own_nil _ _ _ _, hbl⟩
        case round =>
          obtain ⟨j, hj, rfl, hown, hblo⟩ := hrel
          by_cases hjn : j < n
          · obtain ⟨ad, x, rfl, had, hx, hc⟩ := rec_at (hr.below hblo) hjn
            have HT := Lib.hid (ownL_take xs j x hx)
            have hlen := ownL_len xs j
            have hone := rec_one x
            have hjn' : (j : Int) < (n : Int) := by omega
            have p8 := (rec_cells hc).2.2.2.2.2.2.2.2
            obtain ⟨y0, y1, y2, y3, y4, y5, y6, y7, y8⟩ := x
            have HC : Hid (∀ i v, ([.int .u16 y0, .int .u8 y1, .bool y2, .bool y3, .bool y4, .bool y5, .bool y6, .bool y7, .bool y8] : List Value)[i]? = some v → wr.cell? ((ad.add (j * 9)).add i) = some v) := hc
            replace hone : ∀ u ∈ ([.int .u16 y0, .int .u8 y1, .bool y2, .bool y3, .bool y4, .bool y5, .bool y6, .bool y7, .bool y8] : List Value), u.oneCell' = true := hone
            have hbso := hblo.size
            dsimp only at p8
            clear hc hx
            cases y8
            · have HT2 : Hid (ownL (xs.take (j + 1)) = ownL (xs.take j)) := by
                show ownL (xs.take (j + 1)) = ownL (xs.take j)
                rw [HT.out]
                simp
              go_wp2_with fail
              go_roundw
              case rel => exact ⟨j + 1, by omega, by go_num, by rw [HT2.out]; exact hown, hblo⟩
              case measure => simp [intOf]; omega
            · have HT2 : Hid (ownL (xs.take (j + 1)) = ownL (xs.take j) ++ [⟨y0, y1, y2, y3, y4, y5, y6, y7, true⟩]) := by
                show ownL (xs.take (j + 1)) = _
                rw [HT.out]
                simp
              generalize ownL (xs.take j) = L at *
              have hnew : Reads (wr.alloc (.cells #[.int .u16 y0, .int .u8 y1, .bool y2, .bool y3, .bool y4, .bool y5, .bool y6, .bool y7, .bool true] 64)) (wr.heap.size + 1) 9 (some ⟨wr.heap.size, 0, none⟩) 1 [.int .u16 y0, .int .u8 y1, .bool y2, .bool y3, .bool y4, .bool y5, .bool y6, .bool y7, .bool true] := Reads.newS wr 64 #[.int .u16 y0, .int .u8 y1, .bool y2, .bool y3, .bool y4, .bool y5, .bool y6, .bool y7, .bool true] 1 9 (wr.heap.size + 1) rfl (by simp)
              go_wp2_with (first | (refine wpList_load_at rfl 64 (.tmp 138) rfl (ad.add (j * 9)) rfl [.int .u16 y0, .int .u8 y1, .bool y2, .bool y3, .bool y4, .bool y5, .bool y6, .bool y7, .bool true] _ HC.out Try.underlying64 rfl (by kernel_rfl) ?_) | (at_builtin; refine wpList_append_any _ rfl (.tmp 135) (.tmp 140) 57 rfl w.heap.size 64 i0 (.agg #[.int .u16 0, .int .u8 0, .bool false, .bool false, .bool false, .bool false, .bool false, .bool false, .bool false]) 9 10 Try.underlying57 hi hz0 hz1 hz2 rfl (by omega) u14 L.length (recsV L) rfl (hown.alloc _) (wr.heap.size + 1) (some ⟨wr.heap.size, 0, none⟩) 1 1 [.int .u16 y0, .int .u8 y1, .bool y2, .bool y3, .bool y4, .bool y5, .bool y6, .bool y7, .bool true] rfl hnew hone (by simp only [maxLen]; omega) (by omega) (Nat.le_trans hbso (by simp)) ?_; intro v1 w1 hown1 hg1 hat1))
              go_roundw
              case rel => exact ⟨j + 1, by omega, by go_num, by rw [HT2.out, recsV_append, List.length_append]; exact hown1, below_own (below_alloc' hblo) (hown.alloc _) hg1 (Nat.le_trans hbso (by simp))⟩
              case measure => simp [intOf]; omega
          · obtain rfl : j = n := by omega
            have hall : xs.take j = xs := List.take_of_length_le (by rw [HX.out]; exact Nat.le_refl _)
            rw [hall] at hown
            clear hall
            obtain ⟨A0, c0, rfl, hr0, _, _⟩ := own_reads hown
            have hbso := hblo.size
            go_wp2_with fail
            refine (HFIR.out _ hblo).mono ?_
            rintro e w1 ⟨rfl, h1⟩
            have hr01 := hr0.below h1
            have hs1 := h1.size
            replace h1 := below_then hblo h1
            go_wp2_with fail
            refine (HCNT.out w1 h1).mono ?_
            rintro e w2 ⟨rfl, h2⟩
            have hs2 := h2.size
            have hr02 := (hr01.more hs1).below h2
            replace h2 := below_then h1 h2
            go_wp2_with fail
            refine (HREP.out w2 h2).mono ?_
            rintro e w3 ⟨rfl, h3⟩
            have hs3 := h3.size
            have hr03 := (hr02.more hs2).below h3
            replace h3 := below_then h2 h3
            go_wp2_with fail
            refine (HOWN.out w3 h3).mono ?_
            rintro e w4 ⟨v4, rfl, hown4, h4⟩
            have hr04 := (hr03.more hs3).below h4
            obtain ⟨A4, c4, rfl, hr4, _, _⟩ := own_reads hown4
            replace h4 := below_then h3 h4
            go_wp2_with fail
            refine (EqRecSame2 (ownL xs) _ _ _ _ _ _ _ _ _ hr4 hr04 (by omega) (by omega)).mono ?_
            rintro e w5 ⟨rfl, h5⟩
            replace h5 := below_then h4 h5
            go_wp2_with fail
            refine (alive51 w5).mono ?_
            rintro e w6 ⟨rfl, h6⟩
            go_wp2
            go_ret
            exact ⟨rfl, below_then h5 h6⟩
end Go.Proofs.Ytgebopmiefgdoaa

/-
  The walk of the law RingPlays: for every bound, calls and address it returns true.
-/
import Derived.Test.YtgebopmiefgdoaaRing9
import Derived.Deep.DeepCutAuto
namespace Go.Proofs.Ytgebopmiefgdoaa
open Go.RowKit
theorem recs_in {W : World} {s : Sl Rec} (g : s.Good W 9 Rec.cells Rec.Good) : Reads W W.heap.size 9 s.a s.n (recsV s.ys) := g.reads
set_option maxRecDepth 100000 in
set_option maxHeartbeats 40000000 in
theorem RingPlays_walk (w : World) (most : Int) (_gm : IntKind.i64.min ≤ most ∧ most ≤ IntKind.i64.max) (calls : Sl RingOp) (gc : calls.Good w 2 RingOp.cells (RingOp.Good w)) (bnd : Int) (_gb : IntKind.u16.min ≤ bnd ∧ bnd ≤ IntKind.u16.max) :
    Calls Try.prog 9 #[.int .i64 most, calls.v, .int .u16 bnd] w fun e w' => e = .returned (.bool true) ∧ Below w.heap.size w w' := by
  obtain ⟨Ac, N, cc, ops⟩ := calls
  obtain ⟨_, hcm, hrc, hlc, hall⟩ := gc
  dsimp only [Sl.v] at *
  unfold maxLen at *
  by_cases hN : 30 < N
  · go_enter Try.func9, Try.ntmps9
    go_wp2
    go_ret
    exact ⟨rfl, Below.refl _ _⟩
  obtain ⟨high, hh⟩ : ∃ high : Nat, min (max most 1) 4096 = (high : Int) := ⟨(min (max most 1) 4096).toNat, by omega⟩
  have hh1 : 1 ≤ high ∧ high ≤ 4096 := by omega
  obtain ⟨i0, hi, hz0, hz1, hz2⟩ := info_parts info_rec
  have HRN := Lib.hid (RNew_any most high w hh)
  have hmin : ∀ W : World, True := fun _ => trivial
  have HALL := Lib.hid hall
  have HH := Lib.hid hh
  clear hall hh hmin
  go_enter Try.func9, Try.ntmps9
  go_wp2_with fail
  refine HRN.out.mono ?_
  rintro e w1 ⟨rfl, hR, hb1⟩
  have HR := Lib.hid hR
  clear hR HRN
  go_upto_region 6 with fail
  go_cut [8] (fun s8 wx => s8 = .int .i64 (high : Int) ∧ wx = w1)
  case first =>
    go_wp2_with fail
    all_goals
      go_meet
      refine ⟨?_, rfl⟩
      have h := HH.out
      congr 1
      omega
  case rest =>
  obtain ⟨rfl, rfl⟩ := hcut
  have HB1 := Lib.hid hb1
  go_wp2_with fail
  go_loopw [9, 10, 11] (fun l t i wr => ∃ (k total nl cl : Nat) (Al : Option Addr) (L : List Rec), k ≤ N ∧ i = .int .i64 (k : Int) ∧ l = .slice Al nl cl ∧ t = .int .u64 (total : Int) ∧ RingLaw w.heap.size high total Al nl cl L wr ∧ total ≤ 30 * k ∧ Below w.heap.size w wr) (fun _ _ i _ => N - (intOf i).toNat)
  case atStart => exact ⟨0, 0, 0, 0, none, [], by omega, rfl, rfl, rfl, ⟨⟨[], 0, _, HR.out, rfl, fun ad _ e => by cases e⟩, Reads.none_, rfl, ⟨by omega, by simp [maxLen]⟩, by omega⟩, by omega, HB1.out⟩
  case round =>
    obtain ⟨k, total, nl, cl, Al, L, hk, rfl, rfl, rfl, hRL, ht, hbl⟩ := hrel
    have HRL := Lib.hid hRL
    clear hRL HR HB1 hb1
    by_cases hkN : k < N
    · obtain ⟨ad, y, rfl, had, hy, hcells⟩ := Reads.elem (size := 2) RingOp.cells_len (by omega) hrc hkN
      have hgy := HALL.out y (List.mem_of_getElem? hy)
      obtain ⟨clr, ⟨Ax, nx, cx, xs⟩⟩ := y
      have hrx := recs_in hgy.l
      have hlx : xs.length = nx := hgy.l.len
      have hcx := hgy.l.cm
      dsimp only at hrx hlx hcx
      have q0 := hcells 0 _ rfl
      have q1 := hcells 1 _ rfl
      have q0' := (hbl.cell (p := ad.add (k * 2 + 0)) (by rw [block_of_add]; omega)).trans q0
      have q1' := (hbl.cell (p := ad.add (k * 2 + 1)) (by rw [block_of_add]; omega)).trans q1
      dsimp only [Sl.v] at *
      clear hgy hcells q0 hy
      have q1c := q1
      rw [← add_elemR] at q1'
      rw [show k * 2 + 0 = k * 2 from rfl] at q0'
      have hi1 : (k : Int) < (N : Int) := by omega
      unfold maxLen at hcx
      by_cases hx30 : 30 < nx
      · go_wp2
        go_ret
        exact ⟨rfl, hbl⟩
      have hx30' : (nx : Int) ≤ 30 := by omega
      go_upto_if 49 with fail
      go_cut [9, 10] (fun l t wx => ∃ (total nl cl : Nat) (Al : Option Addr) (L : List Rec), l = .slice Al nl cl ∧ t = .int .u64 (total : Int) ∧ RingLaw w.heap.size high total Al nl cl L wx ∧ total ≤ 30 * (k + 1) ∧ Below w.heap.size w wx)
      case first =>
        as_aux_lemma =>
        cases clr with
        | true =>
          obtain ⟨P, at_, v, hR, _, _⟩ := HRL.out.ring
          go_wp2_with fail
          refine (RClear_any wr hR).mono ?_
          rintro e w2 ⟨rfl, hR2, hg2⟩
          go_wp2_with fail
          go_meet
          exact ⟨0, 0, 0, none, [], rfl, rfl, ⟨⟨[], 0, _, hR2, rfl, fun ad _ e => by cases e⟩, Reads.none_, rfl, ⟨by omega, by simp [maxLen]⟩, by omega⟩, by omega, hbl.grown hg2 hbl.size (fun q e => by injection e with e; omega)⟩
        | false =>
          obtain ⟨P, at_, v, hR, hPL, hap⟩ := HRL.out.ring
          have HAP := Lib.hid hap
          have HPL := Lib.hid hPL
          have hRd := HRL.out.reads
          have hLl := HRL.out.len
          have hLh := HRL.out.le
          have hclm := HRL.out.cap
          have hrxw := (hrx.below hbl).more hbl.size
          have hBl := hR.blk.lt
          have HADD := Lib.hid (RAdd_any xs Ax nx cx wr hR hbl.size hrxw (fun ad' h0 e => by
            obtain ⟨ad2, e2, hb2, _⟩ := hrx.2 h0
            rw [e] at e2
            injection e2 with e2
            subst e2
            exact ⟨by omega, fun e => by have := (hR.own.lt _ e).1; omega⟩) (by omega) (by omega))
          have HRD := Lib.hid hRd
          have HLL := Lib.hid hLl
          have HR := Lib.hid hR
          clear hap hPL hRd hLl hR hrxw
          go_wp2_with fail
          refine HADD.out.mono ?_
          rintro e w2 ⟨rfl, P', at', v', hR2, hL2, hon2, hv2⟩
          have HRD2 := Lib.hid (reads_only HRD.out (Nat.le_refl _) hon2 HAP.out)
          have hsz2 := hon2.size
          have hbl2 : Below w.heap.size w w2 := hbl.trans (hon2.below hbl.size (Nat.le_refl _) (fun q e => (HR.out.own.lt q e).1))
          have HON2 := Lib.hid hon2
          have HV2 := Lib.hid hv2
          have HR2 := Lib.hid hR2
          have HL2 := Lib.hid hL2
          have p1 := (hbl2.cell (p := ad.add (k * 2 + 1)) (by rw [block_of_add]; omega)).trans q1c
          rw [← add_elemR] at p1
          have HCL := Lib.hid (CloneR_any L Al nl cl wr.heap.size w2.drew (HRD2.out.below (below_drewN (Below.refl _ w2) 1 |>.mono hsz2)) hsz2 (by omega))
          have HX := Lib.hid hrx
          have hone := recsV_one xs
          have hone0 : ∀ u ∈ recsV xs, u.oneCell' = true := hone
          clear hR2 hL2 hon2 hv2 hone
          go_wp2_with fail
          go_region_law (first
            | (refine step_append_any _ rfl (.tmp 60) (.tmp 65) 57 rfl w2.heap.size 64 i0 (.agg #[.int .u16 0, .int .u8 0, .bool false, .bool false, .bool false, .bool false, .bool false, .bool false, .bool false]) 9 10 Try.underlying57 hi hz0 hz1 hz2 rfl (by omega) (.slice A3 nl c3) nl (recsV L) (by simp [Act.eval]) hown3 w.heap.size Ax nx cx (recsV xs) (by simp [Act.eval]) hrx3 hone0 (by simp only [maxLen]; omega) (by omega) hs3 ?_; intro v4 w4 hown4 hg4 hat4; obtain ⟨A4, c4, rfl, hr4, hnc4, hcm4⟩ := own_reads hown4)
            | (go_simp; go_at_call 46; refine HCL.out.mono ?_; rintro e w3 ⟨v3, rfl, hown3, hb3⟩; obtain ⟨A3, c3, rfl, _, _, _⟩ := own_reads hown3; have hbl3 : Below w.heap.size w w3 := hbl2.trans (Below.mono (below_drewN (Below.refl _ w2) 1 |>.trans hb3) hbl2.size); have p3 := (hbl3.cell (p := ad.add (k * 2 + 1)) (by rw [block_of_add]; omega)).trans q1c; rw [← add_elemR] at p3; have hrx3 := HX.out.below hbl3; have hs3 : w2.heap.size ≤ w3.heap.size := hb3.size))
          all_goals
            have p4 := ((hbl3.grown hg4 hbl3.size (fun q e => by have := (hown3.lt q e).1; have := hbl2.size; have h2 : w2.drew.heap.size = w2.heap.size := rfl; omega)).cell (p := ad.add (k * 2 + 1)) (by rw [block_of_add]; omega)).trans q1c
            rw [← add_elemR] at p4
            have hbl4 := hbl3.grown hg4 hbl3.size (fun q e => by have := (hown3.lt q e).1; have := hbl2.size; have h2 : w2.drew.heap.size = w2.heap.size := rfl; omega)
            have HO4 := Lib.hid hown4
            have HG4 := Lib.hid hg4
            have HO3 := Lib.hid hown3
            have HR4 := Lib.hid hr4
            clear hown4 hg4 hown3 hr4 hat4 p1 p3 q1' q0' q1
            have hPlen : P'.length ≤ high := HR2.out.h3
            have hLlen : (lastN high (L ++ xs)).length = min (nl + nx) high := by rw [lastN_len, List.length_append, HLL.out, hlx]
            have HLAST : Hid (ringL P' at' = lastN high (L ++ xs)) := by
              show ringL P' at' = lastN high (L ++ xs)
              rw [HL2.out, HPL.out, fold_push high hh1.1 L xs (by rw [HLL.out]; exact hLh)]
            have HLN := Lib.hid hLlen
            have htw : IntKind.u64.wrap ((total : Int) + (nx : Int)) = ((total + nx : Nat) : Int) := by
              unfold IntKind.wrap
              simp [IntKind.signed, IntKind.bits]
              omega
            have hcv : IntKind.u64.wrap (nx : Int) = (nx : Int) := by
              unfold IntKind.wrap
              simp [IntKind.signed, IntKind.bits]
              omega
            clear hPlen hLlen
            have hb24 : Below w2.heap.size w2 w4 := ((below_drewN (Below.refl _ w2) 1).trans hb3).grown HG4.out (by have h2 : w2.drew.heap.size = w2.heap.size := rfl; have := hb3.size; omega) (fun q e => by have := (HO3.out.lt q e).1; have h2 : w2.drew.heap.size = w2.heap.size := rfl; omega)
            have HNX : Hid (∀ d, d = nl + nx - high → RingLaw w.heap.size high (total + nx) (cutA A4 c4 d) (nl + nx - d) (c4 - d) (lastN high (L ++ xs)) w4) := fun d hd => ringLaw_next (by have := HR2.out; rw [hlx] at this; exact this) HLAST.out HLL.out hlx hb24 HO4.out d hd
            have htot : total + nx ≤ 30 * (k + 1) := by omega
            clear hb24
            by_cases hfit : nl + nx < high
            · have hsl := slice_zero A4 (nl + nx) c4 w4
              have hmx : (nl : Int) + (nx : Int) - (high : Int) < 0 := by omega
              go_wp2_with fail
              go_meet
              have h := HNX.out 0 (by omega)
              have ec : cutA A4 c4 0 = A4 := by
                unfold cutA
                split
                · rfl
                · cases A4 with
                  | none => rfl
                  | some a => simp [Addr.add]
              rw [ec, Nat.sub_zero, Nat.sub_zero] at h
              exact ⟨total + nx, nl + nx, c4, A4, _, rfl, rfl, h, htot, hbl4⟩
            · have hmx : 0 ≤ (nl : Int) + (nx : Int) - (high : Int) := by omega
              obtain ⟨d, hd⟩ : ∃ d, d = nl + nx - high := ⟨_, rfl⟩
              have hsl := slice_tailI A4 (nl + nx) c4 d ((nl : Int) + (nx : Int) - (high : Int)) (by omega) (by omega) w4
              have HD := Lib.hid hd
              clear hd
              go_wp2_with fail
              go_meet
              exact ⟨total + nx, nl + nx - d, c4 - d, cutA A4 c4 d, _, rfl, rfl, HNX.out d HD.out, htot, hbl4⟩
      case rest =>
        obtain ⟨total', nl', cl', Al', L', rfl, rfl, hRL', ht', hbl'⟩ := hcut
        obtain ⟨wz, hwz⟩ : ∃ wz : World, wz = wc := ⟨_, rfl⟩
        subst hwz
        clear q0' q1' q1 hrx hlx hcx hx30 hx30' had HRL hbl ht
        have HRL := Lib.hid hRL'
        have hRd := hRL'.reads
        have hLn := hRL'.len
        have hnlh : nl' ≤ 4096 := by have := hRL'.le; omega
        have hcap := hRL'.cap
        clear hRL'
        have HLN := Lib.hid hLn
        clear hLn
        go_wp2
        have hbw : Below wz.heap.size wz ((wz.alloc (.cells #[.int .u16 0, .int .u8 0, .bool false, .bool false, .bool false, .bool false, .bool false, .bool false, .bool false] 64)).alloc (.cells #[.int .u16 0, .int .u8 0, .bool false, .bool false, .bool false, .bool false, .bool false, .bool false, .bool false] 64)) := below_alloc (below_alloc (Below.refl _ wz) _) _
        have hk1 : Blk ((wz.alloc (.cells #[.int .u16 0, .int .u8 0, .bool false, .bool false, .bool false, .bool false, .bool false, .bool false, .bool false] 64)).alloc (.cells #[.int .u16 0, .int .u8 0, .bool false, .bool false, .bool false, .bool false, .bool false, .bool false, .bool false] 64)) wz.heap.size 64 zeroArr := (Blk.new wz 64 zeroArr).alloc _
        have hk2 : Blk ((wz.alloc (.cells #[.int .u16 0, .int .u8 0, .bool false, .bool false, .bool false, .bool false, .bool false, .bool false, .bool false] 64)).alloc (.cells #[.int .u16 0, .int .u8 0, .bool false, .bool false, .bool false, .bool false, .bool false, .bool false, .bool false] 64)) (wz.heap.size + 1) 64 zeroArr := by
          have h := Blk.new (wz.alloc (.cells zeroArr 64)) 64 zeroArr
          rw [World.size_alloc] at h
          exact h
        have HK10 := Lib.hid hk1
        have HK20 := Lib.hid hk2
        have HBW := Lib.hid hbw
        clear hk1 hk2 hbw
        obtain ⟨p1, hp1e⟩ : ∃ p1 : Rec → Bool, p1 = fun x : Rec => decide (bnd ≤ x.addr) := ⟨_, rfl⟩
        obtain ⟨p2, hp2e⟩ : ∃ p2 : Rec → Bool, p2 = fun x : Rec => !x.read && x.addr == bnd := ⟨_, rfl⟩
        have HP1E := Lib.hid hp1e
        have HP2E := Lib.hid hp2e
        clear hp1e hp2e
        go_loopw [14, 15, 16] (fun s1 s2 jv ws => ∃ j : Nat, j ≤ nl' ∧ jv = .int .i64 (j : Int) ∧ s1 = .bool (lastR (L'.take j) p1).2 ∧ s2 = .bool (lastR (L'.take j) p2).2 ∧ Blk ws wz.heap.size 64 (Rec.arr (lastR (L'.take j) p1).1) ∧ Blk ws (wz.heap.size + 1) 64 (Rec.arr (lastR (L'.take j) p2).1) ∧ Below wz.heap.size wz ws) (fun _ _ jv _ => nl' - (intOf jv).toNat)
        case atStart => exact ⟨0, by omega, rfl, rfl, rfl, HK10.out, HK20.out, HBW.out⟩
        case round =>
          obtain ⟨j, hj, rfl, rfl, rfl, hK1, hK2, hbs⟩ := hrel
          by_cases hjl : j < nl'
          · have hjl' : (j : Int) < (nl' : Int) := by omega
            obtain ⟨⟨y0, y1, y2, y3, y4, y5, y6, y7, y8⟩, hyj⟩ : ∃ y, L'[j]? = some y := ⟨L'[j]'(by have := HLN.out; omega), List.getElem?_eq_getElem _⟩
            obtain ⟨adl, hAl, hadl, r0, r1, r2, r3, r4, r5, r6, r7, r8⟩ := rec_get (hRd.below hbs) hyj hjl
            have HX1 : Hid (lastR (L'.take (j + 1)) p1 = if decide (bnd ≤ y0) = true then (⟨y0, y1, y2, y3, y4, y5, y6, y7, y8⟩, true) else lastR (L'.take j) p1) := by
              have h := lastR_next L' p1 j _ hyj
              rw [HP1E.out] at h ⊢
              exact h
            have HX2 : Hid (lastR (L'.take (j + 1)) p2 = if (!y2 && y0 == bnd) = true then (⟨y0, y1, y2, y3, y4, y5, y6, y7, y8⟩, true) else lastR (L'.take j) p2) := by
              have h := lastR_next L' p2 j _ hyj
              rw [HP2E.out] at h ⊢
              exact h
            subst hAl
            have HYJ := Lib.hid hyj
            have HRD := Lib.hid hRd
            clear hyj hadl hRd hj
            go_upto_if 95 with fail
            go_cut [14] (fun s1 wx => s1 = .bool (lastR (L'.take (j + 1)) p1).2 ∧ Blk wx wz.heap.size 64 (Rec.arr (lastR (L'.take (j + 1)) p1).1) ∧ Blk wx (wz.heap.size + 1) 64 (Rec.arr (lastR (L'.take j) p2).1) ∧ Below wz.heap.size wz wx)
            case first =>
              have HK2 := Lib.hid hK2
              clear hK2
              by_cases h1 : bnd ≤ y0
              · have hp1 : decide (bnd ≤ y0) = true := by simpa using h1
                have hx1 := HX1.out
                rw [if_pos hp1] at hx1
                have HXX := Lib.hid hx1
                obtain ⟨⟨a0, a1, a2, a3, a4, a5, a6, a7, a8⟩, ab⟩ := lastR (L'.take j) p1
                dsimp only [Rec.arr] at hK1
                have k0 := hK1.cell 0
                have k1 := hK1.cell 1
                have k2 := hK1.cell 2
                have k3 := hK1.cell 3
                have k4 := hK1.cell 4
                have k5 := hK1.cell 5
                have k6 := hK1.cell 6
                have k7 := hK1.cell 7
                have k8 := hK1.cell 8
                simp only [List.getElem?_toArray, List.getElem?_cons_zero, List.getElem?_cons_succ] at k0 k1 k2 k3 k4 k5 k6 k7 k8
                have fk := hK1.frozen
                have HK1 := Lib.hid hK1
                clear hK1 hx1
                go_wp2
                go_meet
                rw [HXX.out]
                refine ⟨rfl, ?_, (((((((((HK2.out.far (p := ⟨wz.heap.size, 0, none⟩) (by simp) (.int .u16 y0)).far (p := ⟨wz.heap.size, 1, none⟩) (by simp) (.int .u8 y1)).far (p := ⟨wz.heap.size, 2, none⟩) (by simp) (.bool y2)).far (p := ⟨wz.heap.size, 3, none⟩) (by simp) (.bool y3)).far (p := ⟨wz.heap.size, 4, none⟩) (by simp) (.bool y4)).far (p := ⟨wz.heap.size, 5, none⟩) (by simp) (.bool y5)).far (p := ⟨wz.heap.size, 6, none⟩) (by simp) (.bool y6)).far (p := ⟨wz.heap.size, 7, none⟩) (by simp) (.bool y7)).far (p := ⟨wz.heap.size, 8, none⟩) (by simp) (.bool y8)), (((((((((hbs.setCell (p := ⟨wz.heap.size, 0, none⟩) (by simp) (.int .u16 y0)).setCell (p := ⟨wz.heap.size, 1, none⟩) (by simp) (.int .u8 y1)).setCell (p := ⟨wz.heap.size, 2, none⟩) (by simp) (.bool y2)).setCell (p := ⟨wz.heap.size, 3, none⟩) (by simp) (.bool y3)).setCell (p := ⟨wz.heap.size, 4, none⟩) (by simp) (.bool y4)).setCell (p := ⟨wz.heap.size, 5, none⟩) (by simp) (.bool y5)).setCell (p := ⟨wz.heap.size, 6, none⟩) (by simp) (.bool y6)).setCell (p := ⟨wz.heap.size, 7, none⟩) (by simp) (.bool y7)).setCell (p := ⟨wz.heap.size, 8, none⟩) (by simp) (.bool y8))⟩
                have h := (((((((((HK1.out.set_ 0 (.int .u16 y0)).set_ 1 (.int .u8 y1)).set_ 2 (.bool y2)).set_ 3 (.bool y3)).set_ 4 (.bool y4)).set_ 5 (.bool y5)).set_ 6 (.bool y6)).set_ 7 (.bool y7)).set_ 8 (.bool y8))
                simpa [Rec.arr] using h
              · have hp1 : decide (bnd ≤ y0) = false := by simpa using h1
                have h1' : y0 < bnd := by omega
                have hx1 := HX1.out
                rw [if_neg (by rw [hp1]; simp)] at hx1
                have HXX := Lib.hid hx1
                have HK1 := Lib.hid hK1
                clear hK1 hx1 h1
                go_wp2
                go_meet
                rw [HXX.out]
                exact ⟨rfl, HK1.out, HK2.out, hbs⟩
            case rest =>
              clear r0 r1 r2 r3 r4 r5 r6 r7 r8 hK1 hK2 hbs
              obtain ⟨rfl, hK1, hK2, hbs⟩ := hcut
              obtain ⟨adl2, hAl2, _, r0, r1, r2, r3, r4, r5, r6, r7, r8⟩ := rec_get (HRD.out.below hbs) HYJ.out hjl
              injection hAl2 with hAl2
              subst hAl2
              have HK1 := Lib.hid hK1
              clear hK1
              by_cases hp : (!y2 && y0 == bnd) = true
              · have hx2 := HX2.out
                rw [if_pos hp] at hx2
                have hy2 : y2 = false := by
                  cases y2 with
                  | false => rfl
                  | true => simp at hp
                subst hy2
                have hq : (y0 == bnd) = true := by simpa using hp
                have HXX := Lib.hid hx2
                obtain ⟨⟨b0, b1, b2, b3, b4, b5, b6, b7, b8⟩, bb⟩ := lastR (L'.take j) p2
                dsimp only [Rec.arr] at hK2
                have m0 := hK2.cell 0
                have m1 := hK2.cell 1
                have m2 := hK2.cell 2
                have m3 := hK2.cell 3
                have m4 := hK2.cell 4
                have m5 := hK2.cell 5
                have m6 := hK2.cell 6
                have m7 := hK2.cell 7
                have m8 := hK2.cell 8
                simp only [List.getElem?_toArray, List.getElem?_cons_zero, List.getElem?_cons_succ] at m0 m1 m2 m3 m4 m5 m6 m7 m8
                have fm := hK2.frozen
                have HK2 := Lib.hid hK2
                have HP := Lib.hid hp
                clear hK2 hx2 hp
                go_wp2
                have hk1 := (((((((((HK1.out.far (p := ⟨wz.heap.size + 1, 0, none⟩) (by simp) (.int .u16 y0)).far (p := ⟨wz.heap.size + 1, 1, none⟩) (by simp) (.int .u8 y1)).far (p := ⟨wz.heap.size + 1, 2, none⟩) (by simp) (.bool false)).far (p := ⟨wz.heap.size + 1, 3, none⟩) (by simp) (.bool y3)).far (p := ⟨wz.heap.size + 1, 4, none⟩) (by simp) (.bool y4)).far (p := ⟨wz.heap.size + 1, 5, none⟩) (by simp) (.bool y5)).far (p := ⟨wz.heap.size + 1, 6, none⟩) (by simp) (.bool y6)).far (p := ⟨wz.heap.size + 1, 7, none⟩) (by simp) (.bool y7)).far (p := ⟨wz.heap.size + 1, 8, none⟩) (by simp) (.bool y8))
                have hk2 := (((((((((HK2.out.set_ 0 (.int .u16 y0)).set_ 1 (.int .u8 y1)).set_ 2 (.bool false)).set_ 3 (.bool y3)).set_ 4 (.bool y4)).set_ 5 (.bool y5)).set_ 6 (.bool y6)).set_ 7 (.bool y7)).set_ 8 (.bool y8))
                have hbe := (((((((((hbs.setCell (p := ⟨wz.heap.size + 1, 0, none⟩) (by simp) (.int .u16 y0)).setCell (p := ⟨wz.heap.size + 1, 1, none⟩) (by simp) (.int .u8 y1)).setCell (p := ⟨wz.heap.size + 1, 2, none⟩) (by simp) (.bool false)).setCell (p := ⟨wz.heap.size + 1, 3, none⟩) (by simp) (.bool y3)).setCell (p := ⟨wz.heap.size + 1, 4, none⟩) (by simp) (.bool y4)).setCell (p := ⟨wz.heap.size + 1, 5, none⟩) (by simp) (.bool y5)).setCell (p := ⟨wz.heap.size + 1, 6, none⟩) (by simp) (.bool y6)).setCell (p := ⟨wz.heap.size + 1, 7, none⟩) (by simp) (.bool y7)).setCell (p := ⟨wz.heap.size + 1, 8, none⟩) (by simp) (.bool y8))
                have hxx := HXX.out
                go_roundw
                case rel =>
                  exact ⟨j + 1, by omega, by go_num, rfl, by rw [hxx], hk1, by rw [hxx]; simpa [Rec.arr] using hk2, hbe⟩
                case measure => simp [intOf]; omega
              · have hx2 := HX2.out
                rw [if_neg hp] at hx2
                have HXX := Lib.hid hx2
                have HK2 := Lib.hid hK2
                clear hK2 hx2
                by_cases hq0 : y0 = bnd
                · have hq : (y0 == bnd) = true := by rw [beq_iff_eq]; exact hq0
                  have hy2 : y2 = true := by
                    cases y2 with
                    | true => rfl
                    | false => exact absurd (by rw [hq]; rfl) hp
                  subst hy2
                  clear hq0 hp
                  go_wp2
                  have hxx := HXX.out
                  go_roundw
                  case rel =>
                    exact ⟨j + 1, by omega, by go_num, rfl, by rw [hxx], HK1.out, by rw [hxx]; exact HK2.out, hbs⟩
                  case measure => simp [intOf]; omega
                · have hq : (y0 == bnd) = false := by rw [beq_eq_false_iff_ne]; exact hq0
                  clear hq0 hp
                  go_wp2
                  have hxx := HXX.out
                  go_roundw
                  case rel =>
                    exact ⟨j + 1, by omega, by go_num, rfl, by rw [hxx], HK1.out, by rw [hxx]; exact HK2.out, hbs⟩
                  case measure => simp [intOf]; omega
          · obtain rfl : j = nl' := by omega
            have hall' : L'.take j = L' := List.take_of_length_le (by rw [HLN.out]; exact Nat.le_refl _)
            rw [hall'] at hK1 hK2 ⊢
            clear hall' hj
            obtain ⟨P, at_, v, hR, hPL, hapl⟩ := HRL.out.ring
            have HAPL := Lib.hid hapl
            clear hapl
            have hPn : P.length = j := by rw [← ringL_len P at_, hPL]; exact HLN.out
            have HPN := Lib.hid hPn
            have HPL := Lib.hid hPL
            have HRZ := Lib.hid (hR.below hbs)
            have HRDS := Lib.hid ((hRd.below hbs).more hbs.size)
            have hHI := HRZ.out.h2
            have hP3 := HRZ.out.h3
            have hblS : Below w.heap.size w wr := hbl'.trans (hbs.mono hbl'.size)
            have HLA : Hid (Calls Try.prog 47 #[.pointer (some ⟨w.heap.size, 0, none⟩), .func (.func 48) #[.agg #[.int .u16 bnd]] #[]] wr fun e w' => e = .returned (.tuple #[Rec.v (lastR L' p1).1, .bool (lastR L' p1).2]) ∧ Below wr.heap.size wr w') := by
              have h := LastIs_any bnd wr HRZ.out HPN.out
              rw [HPL.out, ← HP1E.out] at h
              exact h
            have HWR : Hid (∀ W : World, Below wr.heap.size wr W → Calls Try.prog 49 #[.pointer (some ⟨w.heap.size, 0, none⟩), .int .u16 bnd] W fun e w' => e = .returned (.tuple #[Rec.v (lastR L' p2).1, .bool (lastR L' p2).2]) ∧ Below W.heap.size W w') := fun W hW => by
              have h := Written_any bnd W (HRZ.out.below hW) HPN.out
              rw [HPL.out, ← HP2E.out] at h
              exact h
            clear hR hPL hPn hRd HP1E HP2E
            generalize lastR L' p1 = r1 at *
            generalize lastR L' p2 = r2 at *
            obtain ⟨⟨a0, a1, a2, a3, a4, a5, a6, a7, a8⟩, ab⟩ := r1
            obtain ⟨⟨b0, b1, b2, b3, b4, b5, b6, b7, b8⟩, bb⟩ := r2
            dsimp only [Rec.v, Rec.cells] at HLA HWR
            dsimp only [Rec.arr] at hK1 hK2 ⊢
            have HK1 := Lib.hid hK1
            have HK2 := Lib.hid hK2
            clear hK1 hK2
            go_wp2_with fail
            refine HLA.out.mono ?_
            rintro e w2 ⟨rfl, hb2⟩
            have hbs2 : Below wr.heap.size wr (w2.alloc (.cells #[.int .u16 a0, .int .u8 a1, .bool a2, .bool a3, .bool a4, .bool a5, .bool a6, .bool a7, .bool a8] 64)) := below_alloc hb2 _
            have HWR2 := Lib.hid (HWR.out _ hbs2)
            have hKc2 : Blk (w2.alloc (.cells #[.int .u16 a0, .int .u8 a1, .bool a2, .bool a3, .bool a4, .bool a5, .bool a6, .bool a7, .bool a8] 64)) w2.heap.size 64 #[.int .u16 a0, .int .u8 a1, .bool a2, .bool a3, .bool a4, .bool a5, .bool a6, .bool a7, .bool a8] := Blk.new w2 _ _
            have HKC2 := Lib.hid hKc2
            clear hKc2 HLA
            go_wp2_with fail
            refine HWR2.out.mono ?_
            rintro e w4 ⟨rfl, hb4⟩
            have hbs4 : Below wr.heap.size wr w4 := below_then hbs2 hb4
            have hbs5 : Below wr.heap.size wr (w4.alloc (.cells #[.int .u16 b0, .int .u8 b1, .bool b2, .bool b3, .bool b4, .bool b5, .bool b6, .bool b7, .bool b8] 64)) := below_alloc hbs4 _
            have HKC4 := Lib.hid ((HKC2.out.below hb4 HKC2.out.lt).alloc (.cells #[.int .u16 b0, .int .u8 b1, .bool b2, .bool b3, .bool b4, .bool b5, .bool b6, .bool b7, .bool b8] 64))
            have HKD4 : Hid (Blk (w4.alloc (.cells #[.int .u16 b0, .int .u8 b1, .bool b2, .bool b3, .bool b4, .bool b5, .bool b6, .bool b7, .bool b8] 64)) w4.heap.size 64 #[.int .u16 b0, .int .u8 b1, .bool b2, .bool b3, .bool b4, .bool b5, .bool b6, .bool b7, .bool b8]) := Blk.new w4 _ _
            have hs24 : w2.heap.size < w4.heap.size := by have := hb4.size; simp at this; omega
            have hs04 : wr.heap.size ≤ w2.heap.size := hb2.size
            have hlt1 := HK1.out.lt
            have hlt2 := HK2.out.lt
            have HCL := Lib.hid (CloneR_any L' Al' j cl' wr.heap.size _ (HRDS.out.below hbs5) hbs5.size (by omega))
            clear HWR HWR2
            go_wp2_with fail
            refine HCL.out.mono ?_
            rintro e w6 ⟨v6, rfl, hown6, hb6⟩
            obtain ⟨A6, c6, rfl, _, hnc6, _⟩ := own_reads hown6
            have hs46 : w4.heap.size + 1 ≤ w6.heap.size := by have := hb6.size; simpa using this
            have HRV := Lib.hid (Reverse_any L' w6 hown6 HLN.out (by omega))
            have HO6 := Lib.hid hown6
            clear HCL hown6
            go_wp2_with fail
            refine HRV.out.mono ?_
            rintro e w7 ⟨rfl, hown7, hg7⟩
            obtain ⟨A7, c7, he7, hr7, _, _⟩ := own_reads hown7
            injection he7 with e1 _ e3
            subst e1 e3
            have hb57 : Below (w4.alloc (.cells #[.int .u16 b0, .int .u8 b1, .bool b2, .bool b3, .bool b4, .bool b5, .bool b6, .bool b7, .bool b8] 64)).heap.size (w4.alloc (.cells #[.int .u16 b0, .int .u8 b1, .bool b2, .bool b3, .bool b4, .bool b5, .bool b6, .bool b7, .bool b8] 64)) w7 := hb6.grown hg7 hb6.size (fun q e => (HO6.out.lt q e).1)
            have hbs7 : Below wr.heap.size wr w7 := below_then hbs5 hb57
            have hKa := HK1.out.below hbs7 hlt1
            have hKb := HK2.out.below hbs7 hlt2
            have hKc := HKC4.out.below hb57 HKC4.out.lt
            have hKd := HKD4.out.below hb57 HKD4.out.lt
            have HKA7 := Lib.hid hKa
            have HKB7 := Lib.hid hKb
            have HKC7 := Lib.hid hKc
            have HKD7 := Lib.hid hKd
            have HR7 := Lib.hid (HRZ.out.below hbs7)
            have HRD7 := Lib.hid (HRDS.out.below hbs7)
            have HRV7 := Lib.hid hr7
            have hs07 : wr.heap.size ≤ w7.heap.size := hbs7.size
            have hbl7 : Below w.heap.size w w7 := hblS.trans (hbs7.mono hblS.size)
            clear HRV HO6 hown7 hg7 hb6 hb57 hbs7 hKa hKb hKc hKd hr7 hbs5 hbs4 hbs2 hb4 hb2 HKC2 HKC4 HKD4 HK1 HK2 HRZ HRDS
            have HALLC : Hid (∀ W : World, Below w7.heap.size w7 W → Calls Try.prog 54 #[.pointer (some ⟨w.heap.size, 0, none⟩)] W fun e w' => ∃ v', e = .returned v' ∧ w'.ownsRow W.heap.size 64 9 v' j (recsV L') ∧ Below W.heap.size W w') := fun W hW => by
              have h := RAll_any W (HR7.out.below hW) HPN.out
              rw [HPL.out] at h
              exact h
            have HB9 : Hid (∀ W : World, Below w7.heap.size w7 W → Calls Try.prog 55 #[.pointer (some ⟨w.heap.size, 0, none⟩), .int .i64 9999] W fun e w' => ∃ v', e = .returned v' ∧ w'.ownsRow W.heap.size 64 9 v' j (recsV L'.reverse) ∧ Below W.heap.size W w') := fun W hW => by
              have h := backL_any 9999 W (HR7.out.below hW) HPN.out (by omega)
              rw [HPL.out, show min 9999 j = j by omega, List.take_of_length_le (by rw [List.length_reverse, HLN.out]; omega)] at h
              exact h
            have HB2 : Hid (∀ W : World, Below w7.heap.size w7 W → Calls Try.prog 55 #[.pointer (some ⟨w.heap.size, 0, none⟩), .int .i64 2] W fun e w' => ∃ v', e = .returned v' ∧ w'.ownsRow W.heap.size 64 9 v' (min 2 j) (recsV (L'.reverse.take 2)) ∧ Below W.heap.size W w') := fun W hW => by
              have h := backL_any 2 W (HR7.out.below hW) HPN.out (by omega)
              rw [HPL.out] at h
              exact h
            have HEQ : Hid (∀ (X : List Rec) (A A2 : Option Addr) (n c n2 c2 B B2 : Nat) (W : World), Reads W B 9 A n (recsV X) → Reads W B2 9 A2 n2 (recsV X) → n ≤ 65536 → n2 ≤ 65536 → Calls Try.prog 53 #[.slice A n c, .slice A2 n2 c2] W fun e w' => e = .returned (.bool true) ∧ Below W.heap.size W w') := fun X A A2 n c n2 c2 B B2 W h1 h2 h3 h4 => by
              have h := EqRec_any X X A A2 n c n2 c2 B B2 W h1 h2 (by omega) (by omega)
              rw [decide_eq_true (rfl : X = X)] at h
              exact h
            have hn1 := neq_rec ⟨a0, a1, a2, a3, a4, a5, a6, a7, a8⟩ ⟨a0, a1, a2, a3, a4, a5, a6, a7, a8⟩
            have hn2 := neq_rec ⟨b0, b1, b2, b3, b4, b5, b6, b7, b8⟩ ⟨b0, b1, b2, b3, b4, b5, b6, b7, b8⟩
            simp only [decide_true, Bool.not_true] at hn1 hn2
            have HBOX : Hid (∀ W : World, Below w7.heap.size w7 W → W.cell? ⟨wz.heap.size, 0, none⟩ = some (.int .u16 a0) ∧ W.cell? ⟨wz.heap.size, 1, none⟩ = some (.int .u8 a1) ∧ W.cell? ⟨wz.heap.size, 2, none⟩ = some (.bool a2) ∧ W.cell? ⟨wz.heap.size, 3, none⟩ = some (.bool a3) ∧ W.cell? ⟨wz.heap.size, 4, none⟩ = some (.bool a4) ∧ W.cell? ⟨wz.heap.size, 5, none⟩ = some (.bool a5) ∧ W.cell? ⟨wz.heap.size, 6, none⟩ = some (.bool a6) ∧ W.cell? ⟨wz.heap.size, 7, none⟩ = some (.bool a7) ∧ W.cell? ⟨wz.heap.size, 8, none⟩ = some (.bool a8) ∧ W.cell? ⟨wz.heap.size + 1, 0, none⟩ = some (.int .u16 b0) ∧ W.cell? ⟨wz.heap.size + 1, 1, none⟩ = some (.int .u8 b1) ∧ W.cell? ⟨wz.heap.size + 1, 2, none⟩ = some (.bool b2) ∧ W.cell? ⟨wz.heap.size + 1, 3, none⟩ = some (.bool b3) ∧ W.cell? ⟨wz.heap.size + 1, 4, none⟩ = some (.bool b4) ∧ W.cell? ⟨wz.heap.size + 1, 5, none⟩ = some (.bool b5) ∧ W.cell? ⟨wz.heap.size + 1, 6, none⟩ = some (.bool b6) ∧ W.cell? ⟨wz.heap.size + 1, 7, none⟩ = some (.bool b7) ∧ W.cell? ⟨wz.heap.size + 1, 8, none⟩ = some (.bool b8) ∧ W.cell? ⟨w2.heap.size, 0, none⟩ = some (.int .u16 a0) ∧ W.cell? ⟨w2.heap.size, 1, none⟩ = some (.int .u8 a1) ∧ W.cell? ⟨w2.heap.size, 2, none⟩ = some (.bool a2) ∧ W.cell? ⟨w2.heap.size, 3, none⟩ = some (.bool a3) ∧ W.cell? ⟨w2.heap.size, 4, none⟩ = some (.bool a4) ∧ W.cell? ⟨w2.heap.size, 5, none⟩ = some (.bool a5) ∧ W.cell? ⟨w2.heap.size, 6, none⟩ = some (.bool a6) ∧ W.cell? ⟨w2.heap.size, 7, none⟩ = some (.bool a7) ∧ W.cell? ⟨w2.heap.size, 8, none⟩ = some (.bool a8) ∧ W.cell? ⟨w4.heap.size, 0, none⟩ = some (.int .u16 b0) ∧ W.cell? ⟨w4.heap.size, 1, none⟩ = some (.int .u8 b1) ∧ W.cell? ⟨w4.heap.size, 2, none⟩ = some (.bool b2) ∧ W.cell? ⟨w4.heap.size, 3, none⟩ = some (.bool b3) ∧ W.cell? ⟨w4.heap.size, 4, none⟩ = some (.bool b4) ∧ W.cell? ⟨w4.heap.size, 5, none⟩ = some (.bool b5) ∧ W.cell? ⟨w4.heap.size, 6, none⟩ = some (.bool b6) ∧ W.cell? ⟨w4.heap.size, 7, none⟩ = some (.bool b7) ∧ W.cell? ⟨w4.heap.size, 8, none⟩ = some (.bool b8)) := fun W hW => ⟨(HKA7.out.below hW HKA7.out.lt).cell 0, (HKA7.out.below hW HKA7.out.lt).cell 1, (HKA7.out.below hW HKA7.out.lt).cell 2, (HKA7.out.below hW HKA7.out.lt).cell 3, (HKA7.out.below hW HKA7.out.lt).cell 4, (HKA7.out.below hW HKA7.out.lt).cell 5, (HKA7.out.below hW HKA7.out.lt).cell 6, (HKA7.out.below hW HKA7.out.lt).cell 7, (HKA7.out.below hW HKA7.out.lt).cell 8, (HKB7.out.below hW HKB7.out.lt).cell 0, (HKB7.out.below hW HKB7.out.lt).cell 1, (HKB7.out.below hW HKB7.out.lt).cell 2, (HKB7.out.below hW HKB7.out.lt).cell 3, (HKB7.out.below hW HKB7.out.lt).cell 4, (HKB7.out.below hW HKB7.out.lt).cell 5, (HKB7.out.below hW HKB7.out.lt).cell 6, (HKB7.out.below hW HKB7.out.lt).cell 7, (HKB7.out.below hW HKB7.out.lt).cell 8, (HKC7.out.below hW HKC7.out.lt).cell 0, (HKC7.out.below hW HKC7.out.lt).cell 1, (HKC7.out.below hW HKC7.out.lt).cell 2, (HKC7.out.below hW HKC7.out.lt).cell 3, (HKC7.out.below hW HKC7.out.lt).cell 4, (HKC7.out.below hW HKC7.out.lt).cell 5, (HKC7.out.below hW HKC7.out.lt).cell 6, (HKC7.out.below hW HKC7.out.lt).cell 7, (HKC7.out.below hW HKC7.out.lt).cell 8, (HKD7.out.below hW HKD7.out.lt).cell 0, (HKD7.out.below hW HKD7.out.lt).cell 1, (HKD7.out.below hW HKD7.out.lt).cell 2, (HKD7.out.below hW HKD7.out.lt).cell 3, (HKD7.out.below hW HKD7.out.lt).cell 4, (HKD7.out.below hW HKD7.out.lt).cell 5, (HKD7.out.below hW HKD7.out.lt).cell 6, (HKD7.out.below hW HKD7.out.lt).cell 7, (HKD7.out.below hW HKD7.out.lt).cell 8⟩
            have hb0 : Below w7.heap.size w7 w7.drew := below_drewN (Below.refl _ _) 1
            go_upto_region 34 with fail
            go_cut [192] (fun s wx => s = .bool false ∧ Below w7.heap.size w7 wx)
            case first =>
              obtain ⟨m2, hm2⟩ : ∃ m2, m2 = min 2 j := ⟨_, rfl⟩
              have hm2c : m2 ≤ c6 := by omega
              have HM2 := Lib.hid hm2
              have hsl := slice_head A6 j c6 m2 hm2c
              have hsl2 : ∀ W : World, (Instr.sliceAt 57 (.slice A6 j c6) none (some (.int .i64 (m2 : Int))) none).run Try.prog W = .ok (.slice A6 m2 c6) W := fun W => by rw [run_sliceAt_slice W _ _ _ _ _ (by kernel_rfl)]; exact hsl W
              have HRT : Hid (∀ W : World, Below w7.heap.size w7 W → Reads W w7.heap.size 9 A6 m2 (recsV (L'.reverse.take 2))) := fun W hW => by
                have h := HRV7.out.below hW
                refine ⟨?_, fun h0 => ?_⟩
                · rw [recsV, flat_length Rec.cells_len, List.length_take, List.length_reverse, HLN.out, HM2.out]
                · obtain ⟨ad, e, hb, hc⟩ := h.2 (by omega)
                  refine ⟨ad, e, hb, fun q u hu => hc q u ?_⟩
                  have e2 : recsV L'.reverse = recsV (L'.reverse.take 2) ++ recsV (L'.reverse.drop 2) := by rw [← recsV_append, List.take_append_drop]
                  rw [e2, List.getElem?_append_left (List.getElem?_eq_some_iff.1 hu).1]
                  exact hu
              have hm2b : m2 ≤ 2 := by omega
              by_cases hj2 : j < 2
              · have hi2 : (j : Int) < 2 := by omega
                have he2 : m2 = j := by omega
                have hsl' : ∀ W : World, (Instr.slice 57 (.slice A6 j c6) none (some (.int .i64 (j : Int))) none).run Try.prog W = .ok (.slice A6 m2 c6) W := by rw [he2] at hsl ⊢; exact hsl
                have hsl2' : ∀ W : World, (Instr.sliceAt 57 (.slice A6 j c6) none (some (.int .i64 (j : Int))) none).run Try.prog W = .ok (.slice A6 m2 c6) W := by rw [he2] at hsl2 ⊢; exact hsl2
                have HE2 := Lib.hid he2
                clear hsl hsl2 he2 hm2
                have HNC := Lib.hid hnc6
                clear hnc6 hm2c
                as_aux_lemma =>
                go_region_held3 (fun w' => w'.cell? ⟨wz.heap.size, 0, none⟩ = some (.int .u16 a0) ∧ w'.cell? ⟨wz.heap.size, 1, none⟩ = some (.int .u8 a1) ∧ w'.cell? ⟨wz.heap.size, 2, none⟩ = some (.bool a2) ∧ w'.cell? ⟨wz.heap.size, 3, none⟩ = some (.bool a3) ∧ w'.cell? ⟨wz.heap.size, 4, none⟩ = some (.bool a4) ∧ w'.cell? ⟨wz.heap.size, 5, none⟩ = some (.bool a5) ∧ w'.cell? ⟨wz.heap.size, 6, none⟩ = some (.bool a6) ∧ w'.cell? ⟨wz.heap.size, 7, none⟩ = some (.bool a7) ∧ w'.cell? ⟨wz.heap.size, 8, none⟩ = some (.bool a8) ∧ w'.cell? ⟨wz.heap.size + 1, 0, none⟩ = some (.int .u16 b0) ∧ w'.cell? ⟨wz.heap.size + 1, 1, none⟩ = some (.int .u8 b1) ∧ w'.cell? ⟨wz.heap.size + 1, 2, none⟩ = some (.bool b2) ∧ w'.cell? ⟨wz.heap.size + 1, 3, none⟩ = some (.bool b3) ∧ w'.cell? ⟨wz.heap.size + 1, 4, none⟩ = some (.bool b4) ∧ w'.cell? ⟨wz.heap.size + 1, 5, none⟩ = some (.bool b5) ∧ w'.cell? ⟨wz.heap.size + 1, 6, none⟩ = some (.bool b6) ∧ w'.cell? ⟨wz.heap.size + 1, 7, none⟩ = some (.bool b7) ∧ w'.cell? ⟨wz.heap.size + 1, 8, none⟩ = some (.bool b8) ∧ w'.cell? ⟨w2.heap.size, 0, none⟩ = some (.int .u16 a0) ∧ w'.cell? ⟨w2.heap.size, 1, none⟩ = some (.int .u8 a1) ∧ w'.cell? ⟨w2.heap.size, 2, none⟩ = some (.bool a2) ∧ w'.cell? ⟨w2.heap.size, 3, none⟩ = some (.bool a3) ∧ w'.cell? ⟨w2.heap.size, 4, none⟩ = some (.bool a4) ∧ w'.cell? ⟨w2.heap.size, 5, none⟩ = some (.bool a5) ∧ w'.cell? ⟨w2.heap.size, 6, none⟩ = some (.bool a6) ∧ w'.cell? ⟨w2.heap.size, 7, none⟩ = some (.bool a7) ∧ w'.cell? ⟨w2.heap.size, 8, none⟩ = some (.bool a8) ∧ w'.cell? ⟨w4.heap.size, 0, none⟩ = some (.int .u16 b0) ∧ w'.cell? ⟨w4.heap.size, 1, none⟩ = some (.int .u8 b1) ∧ w'.cell? ⟨w4.heap.size, 2, none⟩ = some (.bool b2) ∧ w'.cell? ⟨w4.heap.size, 3, none⟩ = some (.bool b3) ∧ w'.cell? ⟨w4.heap.size, 4, none⟩ = some (.bool b4) ∧ w'.cell? ⟨w4.heap.size, 5, none⟩ = some (.bool b5) ∧ w'.cell? ⟨w4.heap.size, 6, none⟩ = some (.bool b6) ∧ w'.cell? ⟨w4.heap.size, 7, none⟩ = some (.bool b7) ∧ w'.cell? ⟨w4.heap.size, 8, none⟩ = some (.bool b8)) (exact HBOX.out _ (by assumption)) (first
                  | (go_at_call 51; (with_reducible refine (RLen_any j _ (HR7.out.below hb0) HPN.out).mono ?_); rintro e x1 ⟨rfl, rfl⟩)
                  | (go_at_call 52; (with_reducible refine (RTotal_any _ (HR7.out.below hb0)).mono ?_); rintro e x1 ⟨rfl, rfl⟩)
                  | (go_at_call 54; (with_reducible refine (HALLC.out _ hb0).mono ?_); rintro e x3 ⟨v3, rfl, hw3, hx3⟩; have hy3 := below_then hb0 hx3; obtain ⟨A3, c3, rfl, hr3, _, _⟩ := own_reads hw3; have hl3 := (HRD7.out.more hs07).below hy3)
                  | (go_at_call 53; (with_reducible refine (HEQ.out L' _ _ _ _ _ _ _ _ _ hr3 hl3 (by omega) (by omega)).mono ?_); clear hr3; rintro e x4 ⟨rfl, hx4⟩; have hy4 := below_then hy3 hx4)
                  | (go_at_call 55; (with_reducible refine (HB9.out _ hy4).mono ?_); rintro e x5 ⟨v5, rfl, hw5, hx5⟩; have hy5 := below_then hy4 hx5; obtain ⟨A5, c5, rfl, hr5, _, _⟩ := own_reads hw5; have hl5 := HRV7.out.below hy5)
                  | (go_at_call 53; (with_reducible refine (HEQ.out L'.reverse _ _ _ _ _ _ _ _ _ hr5 hl5 (by omega) (by omega)).mono ?_); clear hr5; rintro e x6 ⟨rfl, hx6⟩; have hy6 := below_then hy5 hx6)
                  | (go_at_call 55; (with_reducible refine (HB2.out _ hy6).mono ?_); rintro e x7 ⟨v7, rfl, hw7, hx7'⟩; have hy7 := below_then hy6 hx7'; obtain ⟨A7, c7, rfl, hr7, _, _⟩ := own_reads hw7; have hl7 := HRT.out _ hy7)
                  | (go_at_call 53; (with_reducible refine (HEQ.out (L'.reverse.take 2) A7 A6 (min 2 j) c7 m2 c6 _ _ _ hr7 hl7 (by omega) (by omega)).mono ?_); clear hr7; rintro e x8 ⟨rfl, hx8⟩; have hx7 := below_then hy7 hx8))
                all_goals
                  go_wp2
                  go_meet
                  exact ⟨rfl, hx7⟩
              · have hi2 : (2 : Int) ≤ (j : Int) := by omega
                have hi3 : ((j : Int) < 2) = False := eq_false (by omega)
                obtain rfl : m2 = 2 := by omega
                clear hm2
                have hsl' : ∀ W : World, (Instr.slice 57 (.slice A6 j c6) none (some (.int .i64 2)) none).run Try.prog W = .ok (.slice A6 2 c6) W := hsl
                have hsl2' : ∀ W : World, (Instr.sliceAt 57 (.slice A6 j c6) none (some (.int .i64 2)) none).run Try.prog W = .ok (.slice A6 2 c6) W := hsl2
                clear hsl hsl2
                have HNC := Lib.hid hnc6
                clear hnc6 hm2c
                as_aux_lemma =>
                go_region_held3 (fun w' => w'.cell? ⟨wz.heap.size, 0, none⟩ = some (.int .u16 a0) ∧ w'.cell? ⟨wz.heap.size, 1, none⟩ = some (.int .u8 a1) ∧ w'.cell? ⟨wz.heap.size, 2, none⟩ = some (.bool a2) ∧ w'.cell? ⟨wz.heap.size, 3, none⟩ = some (.bool a3) ∧ w'.cell? ⟨wz.heap.size, 4, none⟩ = some (.bool a4) ∧ w'.cell? ⟨wz.heap.size, 5, none⟩ = some (.bool a5) ∧ w'.cell? ⟨wz.heap.size, 6, none⟩ = some (.bool a6) ∧ w'.cell? ⟨wz.heap.size, 7, none⟩ = some (.bool a7) ∧ w'.cell? ⟨wz.heap.size, 8, none⟩ = some (.bool a8) ∧ w'.cell? ⟨wz.heap.size + 1, 0, none⟩ = some (.int .u16 b0) ∧ w'.cell? ⟨wz.heap.size + 1, 1, none⟩ = some (.int .u8 b1) ∧ w'.cell? ⟨wz.heap.size + 1, 2, none⟩ = some (.bool b2) ∧ w'.cell? ⟨wz.heap.size + 1, 3, none⟩ = some (.bool b3) ∧ w'.cell? ⟨wz.heap.size + 1, 4, none⟩ = some (.bool b4) ∧ w'.cell? ⟨wz.heap.size + 1, 5, none⟩ = some (.bool b5) ∧ w'.cell? ⟨wz.heap.size + 1, 6, none⟩ = some (.bool b6) ∧ w'.cell? ⟨wz.heap.size + 1, 7, none⟩ = some (.bool b7) ∧ w'.cell? ⟨wz.heap.size + 1, 8, none⟩ = some (.bool b8) ∧ w'.cell? ⟨w2.heap.size, 0, none⟩ = some (.int .u16 a0) ∧ w'.cell? ⟨w2.heap.size, 1, none⟩ = some (.int .u8 a1) ∧ w'.cell? ⟨w2.heap.size, 2, none⟩ = some (.bool a2) ∧ w'.cell? ⟨w2.heap.size, 3, none⟩ = some (.bool a3) ∧ w'.cell? ⟨w2.heap.size, 4, none⟩ = some (.bool a4) ∧ w'.cell? ⟨w2.heap.size, 5, none⟩ = some (.bool a5) ∧ w'.cell? ⟨w2.heap.size, 6, none⟩ = some (.bool a6) ∧ w'.cell? ⟨w2.heap.size, 7, none⟩ = some (.bool a7) ∧ w'.cell? ⟨w2.heap.size, 8, none⟩ = some (.bool a8) ∧ w'.cell? ⟨w4.heap.size, 0, none⟩ = some (.int .u16 b0) ∧ w'.cell? ⟨w4.heap.size, 1, none⟩ = some (.int .u8 b1) ∧ w'.cell? ⟨w4.heap.size, 2, none⟩ = some (.bool b2) ∧ w'.cell? ⟨w4.heap.size, 3, none⟩ = some (.bool b3) ∧ w'.cell? ⟨w4.heap.size, 4, none⟩ = some (.bool b4) ∧ w'.cell? ⟨w4.heap.size, 5, none⟩ = some (.bool b5) ∧ w'.cell? ⟨w4.heap.size, 6, none⟩ = some (.bool b6) ∧ w'.cell? ⟨w4.heap.size, 7, none⟩ = some (.bool b7) ∧ w'.cell? ⟨w4.heap.size, 8, none⟩ = some (.bool b8)) (exact HBOX.out _ (by assumption)) (first
                  | (go_at_call 51; (with_reducible refine (RLen_any j _ (HR7.out.below hb0) HPN.out).mono ?_); rintro e x1 ⟨rfl, rfl⟩)
                  | (go_at_call 52; (with_reducible refine (RTotal_any _ (HR7.out.below hb0)).mono ?_); rintro e x1 ⟨rfl, rfl⟩)
                  | (go_at_call 54; (with_reducible refine (HALLC.out _ hb0).mono ?_); rintro e x3 ⟨v3, rfl, hw3, hx3⟩; have hy3 := below_then hb0 hx3; obtain ⟨A3, c3, rfl, hr3, _, _⟩ := own_reads hw3; have hl3 := (HRD7.out.more hs07).below hy3)
                  | (go_at_call 53; (with_reducible refine (HEQ.out L' _ _ _ _ _ _ _ _ _ hr3 hl3 (by omega) (by omega)).mono ?_); clear hr3; rintro e x4 ⟨rfl, hx4⟩; have hy4 := below_then hy3 hx4)
                  | (go_at_call 55; (with_reducible refine (HB9.out _ hy4).mono ?_); rintro e x5 ⟨v5, rfl, hw5, hx5⟩; have hy5 := below_then hy4 hx5; obtain ⟨A5, c5, rfl, hr5, _, _⟩ := own_reads hw5; have hl5 := HRV7.out.below hy5)
                  | (go_at_call 53; (with_reducible refine (HEQ.out L'.reverse _ _ _ _ _ _ _ _ _ hr5 hl5 (by omega) (by omega)).mono ?_); clear hr5; rintro e x6 ⟨rfl, hx6⟩; have hy6 := below_then hy5 hx6)
                  | (go_at_call 55; (with_reducible refine (HB2.out _ hy6).mono ?_); rintro e x7 ⟨v7, rfl, hw7, hx7'⟩; have hy7 := below_then hy6 hx7'; obtain ⟨A7, c7, rfl, hr7, _, _⟩ := own_reads hw7; have hl7 := HRT.out _ hy7)
                  | (go_at_call 53; (with_reducible refine (HEQ.out (L'.reverse.take 2) A7 A6 (min 2 j) c7 2 c6 _ _ _ hr7 hl7 (by omega) (by omega)).mono ?_); clear hr7; rintro e x8 ⟨rfl, hx8⟩; have hx7 := below_then hy7 hx8))
                all_goals
                  go_wp2
                  go_meet
                  exact ⟨rfl, hx7⟩
            case rest =>
              obtain ⟨rfl, hbx⟩ := hcut
              go_wp2
              go_roundw
              case rel => exact ⟨k + 1, total', j, cl', Al', L', by omega, by go_num, rfl, rfl, ⟨⟨P, at_, v, HR7.out.below hbx, HPL.out, HAPL.out⟩, ((HRD7.out.more hs07).below hbx).more hbx.size, HLN.out, hcap, HRL.out.le⟩, ht', below_then hbl7 hbx⟩
              case measure => simp [intOf]; omega
    · obtain rfl : k = N := by omega
      go_wp2_with ((go_at_call 56; refine (alive58 _).mono ?_; rintro e w2 ⟨rfl, hb2⟩))
      go_ret
      exact ⟨rfl, below_then hbl hb2⟩
end Go.Proofs.Ytgebopmiefgdoaa

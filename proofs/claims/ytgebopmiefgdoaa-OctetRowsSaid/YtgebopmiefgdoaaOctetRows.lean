/-
  The walk of the law OctetRows: for every bytes and words it returns true.
-/
import Derived.Test.YtgebopmiefgdoaaOctRows
import Derived.Test.YtgebopmiefgdoaaEqU16
import Derived.Test.YtgebopmiefgdoaaBytesEq
import Derived.Deep.RegionHeld3
namespace Go.Proofs.Ytgebopmiefgdoaa
open Go.RowKit
set_option maxRecDepth 100000 in
set_option maxHeartbeats 8000000 in
theorem OctetRows_big (w : World) (A A2 : Option Addr) (n c n2 c2 : Nat) (h : 100 < n ∨ n ≤ 100 ∧ 50 < n2) (h2 : n ≤ 9223372036854775807) (h3 : n2 ≤ 9223372036854775807) :
    Calls Try.prog 8 #[.slice A n c, .slice A2 n2 c2] w fun e w' => e = .returned (.bool true) ∧ Below w.heap.size w w' := by
  rcases h with h | ⟨h, h'⟩
  all_goals
    go_enter Try.func8, Try.ntmps8
    go_wp2
    go_ret
    exact ⟨rfl, Below.refl _ _⟩
set_option maxRecDepth 100000 in
set_option maxHeartbeats 8000000 in
theorem OctetRows_small (w : World) (l : List UInt8) (ws : List Int) (hw : ∀ x ∈ ws, 0 ≤ x ∧ x ≤ 65535) (A A2 : Option Addr) (n c n2 c2 : Nat) (hn : n ≤ 100) (hn2 : n2 ≤ 50) (hr : Reads w w.heap.size 1 A n (bytesV l)) (hr2 : Reads w w.heap.size 1 A2 n2 (wordsV ws)) :
    Calls Try.prog 8 #[.slice A n c, .slice A2 n2 c2] w fun e w' => e = .returned (.bool true) ∧ Below w.heap.size w w' := by
  obtain ⟨i0, hi, hz0, hz1, hz2⟩ := info_parts info_u16
  obtain ⟨j0, hj, jz0, jz1, jz2⟩ := info_parts info_u8
  have hln : l.length = n := by simpa [bytesV] using hr.1
  have HLN := Lib.hid hln
  have hln2 : ws.length = n2 := by simpa [wordsV] using hr2.1
  have HLN2 := Lib.hid hln2
  have HW := Lib.hid hw
  clear hln hln2 hw
  go_enter Try.func8, Try.ntmps8
  go_wp2
  go_loop [5, 6, 7] (fun a s i => ∃ k : Nat, k ≤ n ∧ i = .int .i64 k ∧ a = .int .i64 (onesL (l.take k)) ∧ s = .int .i64 (sumL (l.take k))) (fun _ _ i => n - (intOf i).toNat)
  case atStart => exact ⟨0, by omega, rfl, rfl, rfl⟩
  case round =>
    obtain ⟨k, hk, rfl, rfl, rfl⟩ := hrel
    by_cases hlt : k < n
    · obtain ⟨ad, u, rfl, hab, hu, hcell⟩ := hr.at_ hlt
      obtain ⟨c, hx, rfl⟩ := bytesV_get l k u hu
      have HT := Lib.hid (sum_take (fun c => popc c.toNat) l k c hx)
      have HT2 := Lib.hid (sum_take (fun c => c.toNat) l k c hx)
      have hc2 := c.toNat_lt
      have hle := onesL_le (l.take k)
      have hle2 := sumL_le (l.take k)
      have hlk : (l.take k).length ≤ k := List.length_take_le _ _
      clear hu hx
      generalize ho : onesL (l.take k) = o at *
      have HO := Lib.hid ho
      clear ho
      generalize hs : sumL (l.take k) = s at *
      have HS := Lib.hid hs
      clear hs
      go_wp2
      go_loop [5, 8] (fun a m => ∃ q t : Nat, m = .int .i64 q ∧ a = .int .i64 t ∧ q ≤ 255 ∧ t ≤ 26000 ∧ t + popc q = o + popc c.toNat) (fun _ m => (intOf m).toNat)
      case atStart => exact ⟨c.toNat, o, rfl, rfl, by omega, by omega, rfl⟩
      case round =>
        obtain ⟨q, t, rfl, rfl, hq, ht, hpc⟩ := hrel
        have HP := Lib.hid hpc
        clear hpc
        by_cases hq0 : 0 < q
        · have hpp := popc_le c.toNat
          have HST := Lib.hid (popc_step q hq0)
          go_wp2
          go_round
          case rel =>
            have h1 := HP.out
            have h2 := HST.out
            exact ⟨q / 2, t + q % 2, by go_num, by go_num, by omega, by omega, by omega⟩
          case measure => simp [intOf]; omega
        · obtain rfl : q = 0 := by omega
          go_wp2
          have h0 : popc 0 = 0 := by simp [popc]
          have h1 := HP.out
          have h2 := HT.out
          have h3 := HT2.out
          have h4 := HO.out
          have h5 := HS.out
          have e1 : onesL (l.take (k + 1)) = t := by unfold onesL at h4 ⊢; omega
          have e2 : sumL (l.take (k + 1)) = s + c.toNat := by unfold sumL at h5 ⊢; omega
          refine ⟨⟨k + 1, by omega, by go_num, by rw [e1], by rw [e2]; go_num⟩, by simp [intOf]; omega⟩
    · obtain rfl : k = n := by omega
      have hall : l.take k = l := List.take_of_length_le (by rw [HLN.out]; exact Nat.le_refl _)
      rw [hall] at *
      have hol := onesL_le l
      have hsl := sumL_le l
      rw [HLN.out] at hol hsl
      generalize ho : onesL l = o at *
      have HO := Lib.hid ho
      clear ho
      generalize hs : sumL l = s at *
      have HS := Lib.hid hs
      clear hs hall
      go_wp2
      go_loopw [9, 10] (fun v i wr => ∃ j : Nat, 2 * j ≤ k + 1 ∧ i = .int .i64 (2 * j) ∧ wr.ownsRow w.heap.size 22 1 v j (wordsV (wordsL l j)) ∧ Below w.heap.size w wr) (fun _ i _ => k + 1 - (intOf i).toNat)
      case atStart => exact ⟨0, by omega, rfl, own_nil _ _ _ _, Below.refl _ _⟩
      case round =>
        obtain ⟨j, hj', rfl, hown, hbl⟩ := hrel
        by_cases hlt2 : 2 * j < k
        · obtain ⟨ad, u, rfl, hab, hu, hcell⟩ := hr.at_ hlt2
          obtain ⟨c, hx, rfl⟩ := bytesV_get l _ u hu
          have hcell' := (hbl.cell (p := ad.add (2 * j)) (by rw [block_of_add]; omega)).trans hcell
          have hc2 := c.toNat_lt
          have hin := wordAt_in l j
          have hnew : Reads (wr.alloc (.cells #[.int .u16 (wordAt l j)] 22)) (wr.heap.size + 1) 1 (some ⟨wr.heap.size, 0, none⟩) 1 (wordsV [wordAt l j]) := Reads.new1 wr _ _ 1 _ rfl (Nat.lt_succ_self _)
          have hone : ∀ u ∈ wordsV [wordAt l j], u.oneCell' = true := by simp [wordsV, Value.oneCell']
          by_cases hlt3 : 2 * j + 1 < k
          · obtain ⟨ad2, u2, ha2, hab2, hu2, hcell2⟩ := hr.at_ hlt3
            obtain rfl := Option.some.inj ha2
            obtain ⟨d, hy, rfl⟩ := bytesV_get l _ u2 hu2
            have hcell2' := (hbl.cell (p := ad.add (2 * j + 1)) (by rw [block_of_add]; omega)).trans hcell2
            rw [add_pos _ _ (by omega)] at hcell2'
            have hd2 := d.toNat_lt
            have hwd : 256 * (c.toNat : Int) + (d.toNat : Int) = wordAt l j := by simp [wordAt, List.getD_eq_getElem?_getD, hx, hy]
            clear hu hcell hx hu2 hcell2 hy
            go_wp2_with (first | (at_builtin; refine wpList_append_any _ rfl (.tmp 73) (.tmp 76) 47 rfl w.heap.size 22 i0 (.int .u16 0) 1 2 Try.underlying47 hi hz0 hz1 hz2 rfl (by omega) _ j (wordsV (wordsL l j)) rfl (hown.alloc _) (wr.heap.size + 1) (some ⟨wr.heap.size, 0, none⟩) 1 1 (wordsV [wordAt l j]) rfl hnew hone (by simp only [maxLen]; omega) (by omega) (Nat.le_trans hbl.size (by simp)) ?_; intro v1 w1 hown1 hg1 hat1))
            go_roundw
            case rel => exact ⟨j + 1, by omega, by go_num, by rw [wordsL_succ, wordsV_append]; exact hown1, below_own (below_alloc' hbl) (hown.alloc _) hg1 (Nat.le_trans hbl.size (by simp))⟩
            case measure => simp [intOf]; omega
          · have hy : l[2 * j + 1]? = none := List.getElem?_eq_none (by rw [HLN.out]; omega)
            have hwd' : 256 * (c.toNat : Int) = wordAt l j := by simp [wordAt, List.getD_eq_getElem?_getD, hx, hy]
            clear hu hcell hx hy
            go_wp2_with (first | (at_builtin; refine wpList_append_any _ rfl (.tmp 73) (.tmp 76) 47 rfl w.heap.size 22 i0 (.int .u16 0) 1 2 Try.underlying47 hi hz0 hz1 hz2 rfl (by omega) _ j (wordsV (wordsL l j)) rfl (hown.alloc _) (wr.heap.size + 1) (some ⟨wr.heap.size, 0, none⟩) 1 1 (wordsV [wordAt l j]) rfl hnew hone (by simp only [maxLen]; omega) (by omega) (Nat.le_trans hbl.size (by simp)) ?_; intro v1 w1 hown1 hg1 hat1))
            go_roundw
            case rel => exact ⟨j + 1, by omega, by go_num, by rw [wordsL_succ, wordsV_append]; exact hown1, below_own (below_alloc' hbl) (hown.alloc _) hg1 (Nat.le_trans hbl.size (by simp))⟩
            case measure => simp [intOf]; omega
        · have hkk : (k + 1) / 2 = j := by omega
          have HK := Lib.hid hkk
          have hbs := hbl.size
          obtain ⟨B0, hB0⟩ : ∃ B0, B0 = wr.heap.size := ⟨_, rfl⟩
          clear hkk
          obtain ⟨Av, cv, rfl, hrv, hnv, _⟩ := own_reads hown
          clear hown
          obtain ⟨w9, rfl⟩ : ∃ w9 : World, w9 = wr := ⟨_, rfl⟩
          go_wp2
          go_loopw [12, 13] (fun v i wr => ∃ m : Nat, m ≤ n2 ∧ i = .int .i64 m ∧ wr.ownsRow w9.heap.size 5 1 v (2 * m) (bytesV (wbytes (ws.take m))) ∧ Below w9.heap.size w9 wr) (fun _ i _ => n2 - (intOf i).toNat)
          case atStart => exact ⟨0, by omega, rfl, own_nil _ _ _ _, Below.refl _ _⟩
          case round =>
            obtain ⟨m, hm, rfl, hown, hb9⟩ := hrel
            by_cases hlt3 : m < n2
            · obtain ⟨ad, u, rfl, hab, hu, hcell⟩ := hr2.at_ hlt3
              obtain ⟨x, hx, rfl⟩ := wordsV_get ws m u hu
              have hcell' := (hb9.cell (p := ad.add m) (by rw [block_of_add]; omega)).trans ((hbl.cell (p := ad.add m) (by rw [block_of_add]; omega)).trans hcell)
              have HT := Lib.hid (wbytes_take ws m x hx)
              obtain ⟨x0, x1⟩ := HW.out x (List.mem_of_getElem? hx)
              clear hu hcell hx
              have e1 : IntKind.u8.wrap (IntKind.u16.wrap (x.tdiv 256)) = ((UInt8.ofNat (x / 256).toNat).toNat : Int) := by
                rw [UInt8.toNat_ofNat', Int.tdiv_eq_ediv_of_nonneg x0, u16_in _ (by omega) (by omega), IntKind.wrap_u8]; omega
              have e2 : IntKind.u8.wrap (x.tmod 256) = ((UInt8.ofNat (x % 256).toNat).toNat : Int) := by
                rw [UInt8.toNat_ofNat', Int.tmod_eq_emod_of_nonneg x0, IntKind.wrap_u8]; omega
              have hnew : Reads (wr.drew.alloc (.cells #[.int .u8 (IntKind.u8.wrap (IntKind.u16.wrap (x.tdiv 256))), .int .u8 (IntKind.u8.wrap (x.tmod 256))] 5)) (wr.heap.size + 1) 1 (some ⟨wr.heap.size, 0, none⟩) 2 (bytesV [UInt8.ofNat (x / 256).toNat, UInt8.ofNat (x % 256).toNat]) := by
                simp only [bytesV, List.map_cons, List.map_nil, ← e1, ← e2]
                exact Reads.new1 wr.drew _ #[_, _] 2 _ rfl (Nat.lt_succ_self _)
              have hone := bytesV_one [UInt8.ofNat (x / 256).toNat, UInt8.ofNat (x % 256).toNat]
              clear e1 e2
              have hbs9 := hb9.size
              have hne : (ad.add m).block ≠ wr.heap.size := by rw [block_of_add]; omega
              have hlt4 : (ad.add m).block < w9.heap.size := by rw [block_of_add]; omega
              go_wp2
              go_region_held3 (fun w' => w'.cell? (ad.add m) = some (.int .u16 x)) (first | (go_keep; done) | exact (own_cell (World.ownsRow.alloc (w := wr.drew) hown _) hg1 (Nat.le_trans hbs9 (by simp)) hlt4).trans (by go_keep))
                (first | (refine step_append_any _ rfl (.tmp 84) (.tmp 97) 37 rfl w9.heap.size 5 j0 (.int .u8 0) 1 1 Try.underlying37 hj jz0 jz1 jz2 rfl (by omega) _ (2 * m) (bytesV (wbytes (ws.take m))) rfl (World.ownsRow.alloc (w := wr.drew) hown _) (wr.heap.size + 1) (some ⟨wr.heap.size, 0, none⟩) 2 2 (bytesV [UInt8.ofNat (x / 256).toNat, UInt8.ofNat (x % 256).toNat]) rfl hnew hone (by simp only [maxLen]; omega) (by omega) (Nat.le_trans hbs9 (by simp)) ?_; intro v1 w1 hown1 hg1 hat1))
              go_wp2
              go_roundw
              case rel =>
                refine ⟨m + 1, by omega, by go_num, ?_, below_own (w := wr.drew.alloc _) (Below.alloc (Below.drew hb9) hbs9 _) (World.ownsRow.alloc (w := wr.drew) hown _) hg1 (Nat.le_trans hbs9 (by simp))⟩
                rw [HT.out, bytesV_append, show 2 * (m + 1) = 2 * m + 2 by omega]
                exact hown1
              case measure => simp [intOf]; omega
            · obtain rfl : m = n2 := by omega
              have hall : ws.take m = ws := List.take_of_length_le (by rw [HLN2.out]; exact Nat.le_refl _)
              rw [hall] at hown
              have hbs9 := hb9.size
              obtain ⟨A7, c7, rfl, hr7, _, _⟩ := own_reads hown
              clear hall hown
              have hrv' := (hrv.below hb9).more hbs9
              have hra := ((hr.below hbl).more hbs).below hb9 |>.more hbs9
              have hrb := ((hr2.below hbl).more hbs).below hb9 |>.more hbs9
              clear hrv hr hr2
              obtain ⟨wz, rfl⟩ : ∃ wz : World, wz = wr := ⟨_, rfl⟩
              have HWB := Lib.hid (words_bytes ws HW.out)
              have hwl : wordsL l ((k + 1) / 2) = wordsL l j := by rw [HK.out]
              have HWL := Lib.hid hwl
              have hwl2 : wordsL (wbytes ws) ((2 * m + 1) / 2) = ws := by
                have h1 := HWB.out
                rw [HLN2.out] at h1
                rw [show (2 * m + 1) / 2 = m by omega]
                exact h1
              have HWL2 := Lib.hid hwl2
              have hbl2 : (wbytes ws).length = 2 * m := by rw [wbytes_length, HLN2.out]
              have HBL := Lib.hid hbl2
              clear hwl hwl2 hbl2 hB0 hbs hbs9
              have hb0z := hbl.trans (hb9.mono hbl.size)
              go_wp2_with fail
              refine (Ones_any l A k c _ wz hra (by omega)).mono ?_
              rintro e w1 ⟨rfl, rfl⟩
              rw [HO.out]
              go_wp2_with fail
              refine (Sum_any l A k c _ wz hra (by omega)).mono ?_
              rintro e w1 ⟨rfl, rfl⟩
              rw [HS.out]
              go_wp2_with fail
              refine (Words_any l A k c _ wz (Nat.le_refl _) hra (by omega)).mono ?_
              rintro e w1 ⟨v1, rfl, hown1, hb1⟩
              rw [HWL.out] at hown1
              obtain ⟨P1, q1, rfl, hp1, hq1, _⟩ := own_reads hown1
              have hrv1 := hrv'.below hb1
              have hrb1 := (hrb.below hb1).more hb1.size
              have hr71 := (hr7.below hb1).more hb1.size
              clear hown1 hrv' hrb hr7 hra
              go_wp2_with fail
              refine (EqU16_any (wordsL l j) (wordsL l j) _ _ _ _ _ _ _ _ w1 hp1 hrv1 (by rw [wordsL_length]; omega) (by omega)).mono ?_
              rintro e w2 ⟨rfl, hb2⟩
              rw [decide_eq_true (rfl : wordsL l j = wordsL l j)]
              have hrb2 := (hrb1.below hb2).more hb2.size
              have hr72 := (hr71.below hb2).more hb2.size
              clear hrb1 hr71 hp1 hrv1
              go_wp2_with fail
              refine (Bytes_any ws HW.out A2 m c2 _ w2 (Nat.le_refl _) hrb2 (by omega)).mono ?_
              rintro e w3 ⟨v3, rfl, hown3, hb3⟩
              rw [HBL.out] at hown3
              obtain ⟨P3, q3, rfl, hp3, hq3, _⟩ := own_reads hown3
              have hrb3 := (hrb2.below hb3).more hb3.size
              have hr73 := hr72.below hb3
              clear hown3 hrb2 hr72
              go_wp2_with fail
              refine (Equal_any (wbytes ws) (wbytes ws) _ _ _ _ _ _ _ _ w3 hp3 hr73).mono ?_
              rintro e w4 ⟨rfl, rfl⟩
              rw [beq_self_eq_true]
              clear hp3 hr73
              go_wp2_with fail
              refine (Bytes_any ws HW.out A2 m c2 _ w3 (Nat.le_refl _) hrb3 (by omega)).mono ?_
              rintro e w4 ⟨v4, rfl, hown4, hb4⟩
              rw [HBL.out] at hown4
              obtain ⟨P4, q4, rfl, hp4, hq4, _⟩ := own_reads hown4
              have hrb4 := (hrb3.below hb4).more hb4.size
              clear hown4 hrb3
              go_wp2_with fail
              refine (Words_any (wbytes ws) P4 (2 * m) q4 _ w4 (Nat.le_refl _) hp4 (by omega)).mono ?_
              rintro e w5 ⟨v5, rfl, hown5, hb5⟩
              rw [HWL2.out] at hown5
              obtain ⟨P5, q5, rfl, hp5, hq5, _⟩ := own_reads hown5
              have hrb5 := hrb4.below hb5
              clear hown5 hrb4
              have hwl5 : ws.length ≤ 50 := by rw [HLN2.out]; exact hn2
              go_wp2_with fail
              refine (EqU16_any ws ws _ _ _ _ _ _ _ _ w5 hp5 hrb5 (by omega) (by omega)).mono ?_
              rintro e w6 ⟨rfl, hb6⟩
              rw [decide_eq_true (rfl : ws = ws)]
              clear hp5 hrb5
              go_wp2_with fail
              refine (alive01 w6).mono ?_
              rintro e w7 ⟨rfl, rfl⟩
              go_wp2
              go_ret
              exact ⟨rfl, below_then (below_then (below_then (below_then (below_then (below_then hb0z hb1) hb2) hb3) hb4) hb5) hb6⟩
theorem OctetRows_walk (w : World) (b : Sl Int) (gb : b.Good w 1 u8Cell u8Good) (ws : Sl Int) (gw : ws.Good w 1 u16Cell u16Good) :
    Calls Try.prog 8 #[b.v, ws.v] w fun e w' => e = .returned (.bool true) ∧ Below w.heap.size w w' := by
  obtain ⟨A, n, c, ys⟩ := b
  obtain ⟨A2, n2, c2, zs⟩ := ws
  obtain ⟨hnc, hcm, hr, hlen, hall⟩ := gb
  obtain ⟨hnc2, hcm2, hr2, hlen2, hall2⟩ := gw
  dsimp only [Sl.v] at *
  unfold maxLen at hcm hcm2
  by_cases h : 100 < n
  · exact OctetRows_big w A A2 n c n2 c2 (.inl h) (by omega) (by omega)
  · by_cases h2 : 50 < n2
    · exact OctetRows_big w A A2 n c n2 c2 (.inr ⟨by omega, h2⟩) (by omega) (by omega)
    · obtain ⟨l, hl, _⟩ := bytes_in hall
      rw [hl] at hr
      have hr2' : Reads w w.heap.size 1 A2 n2 (wordsV zs) := by
        have e : zs.flatMap u16Cell = wordsV zs := flat_one zs
        rw [← e]; exact hr2
      refine OctetRows_small w l zs (fun x hx => ?_) A A2 n c n2 c2 (by omega) (by omega) hr hr2'
      have := hall2 x hx
      unfold u16Good at this
      simpa [IntKind.min, IntKind.max, IntKind.signed, IntKind.bits] using this
end Go.Proofs.Ytgebopmiefgdoaa

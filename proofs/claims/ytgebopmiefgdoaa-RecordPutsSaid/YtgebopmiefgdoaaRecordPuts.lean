/-
  The walk of the law RecordPuts: for every records it returns true.
-/
import Derived.Test.YtgebopmiefgdoaaRecLaw
import Derived.Deep.RegionHeld3
namespace Go.Proofs.Ytgebopmiefgdoaa
open Go.RowKit
theorem EqRecSame (ys : List Rec) (A A2 : Option Addr) (n c n2 c2 B B2 : Nat) (w : World) (hr : Reads w B 9 A n (recsV ys)) (hr2 : Reads w B2 9 A2 n2 (recsV ys)) (hn : n ≤ 4611686018427387904) (hn2 : n2 ≤ 4611686018427387904) :
    Calls Try.prog 53 #[.slice A n c, .slice A2 n2 c2] w fun e w' => e = .returned (.bool true) ∧ Below w.heap.size w w' := by
  have h := EqRec_any ys ys A A2 n c n2 c2 B B2 w hr hr2 hn hn2
  rw [decide_eq_true rfl] at h
  exact h
set_option maxRecDepth 100000 in
set_option maxHeartbeats 8000000 in
theorem RecordPuts_walk (w : World) (b : Sl Rec) (gb : b.Good w 9 Rec.cells Rec.Good) :
    Calls Try.prog 17 #[b.v] w fun e w' => e = .returned (.bool true) ∧ Below w.heap.size w w' := by
  obtain ⟨A, n, c, ys⟩ := b
  obtain ⟨hnc, hcm, hr0, hlen, hall⟩ := gb
  dsimp only [Sl.v] at *
  have hr : Reads w w.heap.size 9 A n (recsV ys) := hr0
  have hlen' : ys.length = n := hlen
  have HL := Lib.hid hlen'
  have HG := Lib.hid hall
  obtain ⟨i0, hi, hz0, hz1, hz2⟩ := info_parts info_u8
  clear hr0 hlen hlen' hall
  by_cases hbig : 60 < n
  · go_enter Try.func17, Try.ntmps17
    go_wp2
    go_ret
    exact ⟨rfl, Below.refl _ _⟩
  go_enter Try.func17, Try.ntmps17
  go_wp2_with fail
  go_loopw [3, 4, 5] (fun v s i wr => ∃ k : Nat, k ≤ n ∧ i = .int .i64 k ∧ s = .string ⟨(linesL (ys.take k)).toArray⟩ ∧ wr.ownsRow w.heap.size 5 1 v (4 * k) (bytesV (putsL (ys.take k))) ∧ Below w.heap.size w wr) (fun _ _ i _ => n - (intOf i).toNat)
  case atStart => exact ⟨0, by omega, rfl, rfl, by simpa [bytesV, putsL] using own_nil _ _ _ _, Below.refl _ _⟩
  case round =>
    obtain ⟨k, hk, rfl, rfl, hown, hbl⟩ := hrel
    by_cases hlt : k < n
    · obtain ⟨ad, y, rfl, had, hy, hc⟩ := rec_at hr hlt
      have gy := HG.out y (List.mem_of_getElem? hy)
      have HT1 := Lib.hid (putsL_take ys k y hy)
      have HT2 := Lib.hid (linesL_take ys k y hy)
      have HC : Hid (∀ W : World, Below w.heap.size w W → ∀ j v, ([.int .u16 y.addr, .int .u8 y.data, .bool y.read, .bool y.ba, .bool y.bs, .bool y.lic, .bool y.avma, .bool y.busy, .bool y.mine] : List Value)[j]? = some v → W.cell? ((ad.add (k * 9)).add j) = some v) := fun W hb j v hv => (hb.cell (by rw [block_of_add, block_of_add]; exact had)).trans (hc j v hv)
      have HPU := Lib.hid (Put26R_any y gy)
      have HTX := Lib.hid (RTextR_any y gy)
      have HRD := Lib.hid (RReadR_any y gy)
      have HT26 := Lib.hid (Text26R_any y gy)
      have hlt' : (k : Int) < (n : Int) := by omega
      have hlen : (linesL (ys.take k)).length ≤ 18 * 60 := by rw [linesL_len, List.length_take]; omega
      have hty := Rec.txt_len y
      have HNQ := Lib.hid (neq_rec y y)
      clear hc hy gy
      go_wp2_with (first | (refine wpList_load_at rfl 64 (.tmp 24) rfl (ad.add (k * 9)) rfl [.int .u16 y.addr, .int .u8 y.data, .bool y.read, .bool y.ba, .bool y.bs, .bool y.lic, .bool y.avma, .bool y.busy, .bool y.mine] _ (HC.out _ hbl) Try.underlying64 rfl (by kernel_rfl) ?_) | (go_at_call 84; with_reducible refine (HPU.out _).mono ?_; rintro e w1 ⟨g, rfl, hr1, hb1⟩) | (at_builtin; refine wpList_append_any _ rfl (.tmp 21) (.tmp 26) 37 rfl w.heap.size 5 i0 (.int .u8 0) 1 1 Try.underlying37 hi hz0 hz1 hz2 rfl (by omega) u3 (4 * k) (bytesV (putsL (ys.take k))) rfl (own_below hown hb1) w1.heap.size (some ⟨g, 0, none⟩) 4 4 (bytesV y.bytes) rfl hr1 (bytesV_one _) (by simp only [maxLen]; omega) (by omega) (Nat.le_trans hbl.size hb1.size) ?_; intro v1 w2 hown2 hg2 hat2; have hbl2 := below_own (below_then hbl hb1) (own_below hown hb1) hg2 (Nat.le_trans hbl.size hb1.size)) | (refine wpList_load_at rfl 64 (.tmp 30) rfl (ad.add (k * 9)) rfl [.int .u16 y.addr, .int .u8 y.data, .bool y.read, .bool y.ba, .bool y.bs, .bool y.lic, .bool y.avma, .bool y.busy, .bool y.mine] _ (HC.out _ hbl2) Try.underlying64 rfl (by kernel_rfl) ?_) | fail)
      refine (HTX.out _).mono ?_
      rintro e w3 ⟨rfl, hb3⟩
      have hbl3 := below_then hbl2 hb3
      go_wp2_with fail
      refine (HRD.out _).mono ?_
      rintro e w4 ⟨rfl, hb4⟩
      have hown4 := own_below (own_below hown2 hb3) hb4
      have hbl4 := below_then hbl3 hb4
      clear hown hb1 hg2 hat2 hr1 hown2 hb3 hb4 hbl2 hbl3 hbl
      go_wp2_with fail
      have hB7 := Blk.new w4 64 #[.int .u16 y.addr, .int .u8 y.data, .bool y.read, .bool y.ba, .bool y.bs, .bool y.lic, .bool y.avma, .bool y.busy, .bool y.mine]
      have hown5 := World.ownsRow.alloc (w := w4) hown4 (.cells #[.int .u16 y.addr, .int .u8 y.data, .bool y.read, .bool y.ba, .bool y.bs, .bool y.lic, .bool y.avma, .bool y.busy, .bool y.mine] 64)
      have hbl5 := below_alloc hbl4 (.cells #[.int .u16 y.addr, .int .u8 y.data, .bool y.read, .bool y.ba, .bool y.bs, .bool y.lic, .bool y.avma, .bool y.busy, .bool y.mine] 64)
      have hbs4 := hbl4.size
      have hg7 : w4.heap.size < (w4.alloc (.cells #[.int .u16 y.addr, .int .u8 y.data, .bool y.read, .bool y.ba, .bool y.bs, .bool y.lic, .bool y.avma, .bool y.busy, .bool y.mine] 64)).heap.size := hB7.lt
      generalize w4.alloc (.cells #[.int .u16 y.addr, .int .u8 y.data, .bool y.read, .bool y.ba, .bool y.bs, .bool y.lic, .bool y.avma, .bool y.busy, .bool y.mine] 64) = w5 at *
      clear hown4 hbl4
      obtain ⟨p0, p1, p2, p3, p4, p5, p6, p7, p8⟩ := rec_cells (HC.out _ hbl5)
      have q0 := hB7.cell 0
      have q1 := hB7.cell 1
      have q2 := hB7.cell 2
      have q3 := hB7.cell 3
      have q4 := hB7.cell 4
      have q5 := hB7.cell 5
      have q6 := hB7.cell 6
      have q7 := hB7.cell 7
      have q8 := hB7.cell 8
      simp only [List.getElem?_toArray, List.getElem?_cons_zero, List.getElem?_cons_succ] at q0 q1 q2 q3 q4 q5 q6 q7 q8
      have hPd : (ad.add (k * 9)).block < w5.drew.heap.size := by
        rw [block_of_add]
        have : ad.block < w5.heap.size := by omega
        simpa using this
      have hQd : w4.heap.size < w5.drew.heap.size := by simpa using hg7
      have hneq := HNQ.out
      simp only [decide_true, Bool.not_true] at hneq
      clear hB7
      go_region_held3 (fun w' => w'.cell? (ad.add (k * 9)) = some (.int .u16 y.addr) ∧ w'.cell? ⟨(ad.add (k * 9)).block, (ad.add (k * 9)).off + 1, none⟩ = some (.int .u8 y.data) ∧ w'.cell? ⟨(ad.add (k * 9)).block, (ad.add (k * 9)).off + 2, none⟩ = some (.bool y.read) ∧ w'.cell? ⟨(ad.add (k * 9)).block, (ad.add (k * 9)).off + 3, none⟩ = some (.bool y.ba) ∧ w'.cell? ⟨(ad.add (k * 9)).block, (ad.add (k * 9)).off + 4, none⟩ = some (.bool y.bs) ∧ w'.cell? ⟨(ad.add (k * 9)).block, (ad.add (k * 9)).off + 5, none⟩ = some (.bool y.lic) ∧ w'.cell? ⟨(ad.add (k * 9)).block, (ad.add (k * 9)).off + 6, none⟩ = some (.bool y.avma) ∧ w'.cell? ⟨(ad.add (k * 9)).block, (ad.add (k * 9)).off + 7, none⟩ = some (.bool y.busy) ∧ w'.cell? ⟨(ad.add (k * 9)).block, (ad.add (k * 9)).off + 8, none⟩ = some (.bool y.mine) ∧ w'.cell? ⟨w4.heap.size, 0, none⟩ = some (.int .u16 y.addr) ∧ w'.cell? ⟨w4.heap.size, 1, none⟩ = some (.int .u8 y.data) ∧ w'.cell? ⟨w4.heap.size, 2, none⟩ = some (.bool y.read) ∧ w'.cell? ⟨w4.heap.size, 3, none⟩ = some (.bool y.ba) ∧ w'.cell? ⟨w4.heap.size, 4, none⟩ = some (.bool y.bs) ∧ w'.cell? ⟨w4.heap.size, 5, none⟩ = some (.bool y.lic) ∧ w'.cell? ⟨w4.heap.size, 6, none⟩ = some (.bool y.avma) ∧ w'.cell? ⟨w4.heap.size, 7, none⟩ = some (.bool y.busy) ∧ w'.cell? ⟨w4.heap.size, 8, none⟩ = some (.bool y.mine)) (first | (go_keep; done)) (first | (go_at_call 82; with_reducible refine (HT26.out _).mono ?_; rintro e w6 ⟨rfl, hb5⟩; have r0 := hb5.cell (p := (ad.add (k * 9))) hPd; have r1 := hb5.cell (p := ⟨(ad.add (k * 9)).block, (ad.add (k * 9)).off + 1, none⟩) hPd; have r2 := hb5.cell (p := ⟨(ad.add (k * 9)).block, (ad.add (k * 9)).off + 2, none⟩) hPd; have r3 := hb5.cell (p := ⟨(ad.add (k * 9)).block, (ad.add (k * 9)).off + 3, none⟩) hPd; have r4 := hb5.cell (p := ⟨(ad.add (k * 9)).block, (ad.add (k * 9)).off + 4, none⟩) hPd; have r5 := hb5.cell (p := ⟨(ad.add (k * 9)).block, (ad.add (k * 9)).off + 5, none⟩) hPd; have r6 := hb5.cell (p := ⟨(ad.add (k * 9)).block, (ad.add (k * 9)).off + 6, none⟩) hPd; have r7 := hb5.cell (p := ⟨(ad.add (k * 9)).block, (ad.add (k * 9)).off + 7, none⟩) hPd; have r8 := hb5.cell (p := ⟨(ad.add (k * 9)).block, (ad.add (k * 9)).off + 8, none⟩) hPd; have s0 := hb5.cell (p := ⟨w4.heap.size, 0, none⟩) hQd; have s1 := hb5.cell (p := ⟨w4.heap.size, 1, none⟩) hQd; have s2 := hb5.cell (p := ⟨w4.heap.size, 2, none⟩) hQd; have s3 := hb5.cell (p := ⟨w4.heap.size, 3, none⟩) hQd; have s4 := hb5.cell (p := ⟨w4.heap.size, 4, none⟩) hQd; have s5 := hb5.cell (p := ⟨w4.heap.size, 5, none⟩) hQd; have s6 := hb5.cell (p := ⟨w4.heap.size, 6, none⟩) hQd; have s7 := hb5.cell (p := ⟨w4.heap.size, 7, none⟩) hQd; have s8 := hb5.cell (p := ⟨w4.heap.size, 8, none⟩) hQd))
      have hown6 := own_below (w := w5.drew) hown5 hb5
      have hbl6 := below_then (w1 := w5.drew) (below_drewN hbl5 1) hb5
      clear hb5 hown5 hbl5 p0 p1 p2 p3 p4 p5 p6 p7 p8 q0 q1 q2 q3 q4 q5 q6 q7 q8 r0 r1 r2 r3 r4 r5 r6 r7 r8 s0 s1 s2 s3 s4 s5 s6 s7 s8 hneq
      go_wp2
      go_roundw
      case rel => exact ⟨k + 1, by omega, by go_num, congrArg Value.string (by rw [HT2.out]; apply ByteArray.ext; simp), by rw [HT1.out, bytesV_append, show 4 * (k + 1) = 4 * k + 4 by omega]; exact hown6, hbl6⟩
      case measure => simp [intOf]; omega
    · obtain rfl : k = n := by omega
      have hall : ys.take k = ys := List.take_of_length_le (by rw [HL.out]; exact Nat.le_refl _)
      rw [hall] at hown ⊢
      clear hall
      have hlp := putsL_len ys
      rw [HL.out] at hlp
      go_wp2_with fail
      refine (RPut_any ys A k c w.heap.size wr hbl.size (hr.below hbl) HG.out (by omega)).mono ?_
      rintro e w1 ⟨v1, rfl, hown1, hb1⟩
      have hbl1 := below_then hbl hb1
      obtain ⟨A0, c0, rfl, hr0, _, _⟩ := own_reads hown
      obtain ⟨A1, c1, rfl, hr1, _, _⟩ := own_reads hown1
      replace hr0 := hr0.below hb1
      go_wp2_with fail
      refine (Get_any (putsL ys) A1 (4 * k) c1 w1.heap.size w1 (Nat.le_refl _) hr1 (by omega)).mono ?_
      rintro e w2 ⟨hb2, hget⟩
      have hbl2 := below_then hbl1 hb2
      rcases hget with ⟨h4, _⟩ | ⟨_, hbad, _⟩ | ⟨_, _, v2, rfl, hown2⟩
      · exact absurd (by rw [hlp]; omega) h4
      · exact absurd hbad (puts_good ys)
      have e4 : (putsL ys).length / 4 = ys.length := by rw [putsL_len]; omega
      rw [e4, getL_puts ys HG.out, HL.out] at hown2
      obtain ⟨A2, c2, rfl, hr2, _, _⟩ := own_reads hown2
      replace hr0 := (hr0.more (hb1.size)).below hb2
      replace hr1 := hr1.below hb2
      have hrA := hr.below hbl2
      have HLN : Hid (∀ W : World, Below w.heap.size w W → Calls Try.prog 98 #[.slice A k c] W fun e w' => e = .returned (.string ⟨(linesL ys).toArray⟩) ∧ Below W.heap.size W w') := fun W hb => Lines_any ys A k c w.heap.size W hb.size (hr.below hb) HG.out (by omega)
      clear hown hown1 hown2 hb1 hb2 hbl hbl1 e4 hlp
      go_wp2_with fail
      refine (Equal_any (putsL ys) (putsL ys) _ _ _ _ _ _ _ _ _ hr1 hr0).mono ?_
      rintro e w3 ⟨rfl, rfl⟩
      rw [beq_self_eq_true]
      go_wp2_with fail
      refine (EqRecSame ys _ _ _ _ _ _ _ _ _ hr2 hrA (by omega) (by omega)).mono ?_
      rintro e w4 ⟨rfl, hb4⟩
      have hbl4 := below_then hbl2 hb4
      go_wp2_with fail
      refine (HLN.out _ hbl4).mono ?_
      rintro e w5 ⟨rfl, hb5⟩
      go_wp2_with ((go_at_call 83; with_reducible refine (alive26 _).mono ?_; rintro e w9 ⟨rfl, hb9⟩))
      go_ret
      exact ⟨rfl, below_then (below_then hbl4 hb5) hb9⟩
end Go.Proofs.Ytgebopmiefgdoaa

/-
  The walk of the law WholeReset.
-/
import Derived.Test.YtkdaphkpllgmbaaGreatM37
import Derived.Test.YtkdaphkpllgmbaaGreatM38
namespace Go.Proofs.YtkdaphkpllgmbaaGreat
open Go.RowKit Sp
set_option linter.unusedVariables false
set_option linter.unusedSimpArgs false
attribute [local go_sem] Sp.Regs.v Sp.Regs.cells stL
theorem join_nat (h l : UInt8) : (joinW (wide h) l).toNat = h.toNat * 256 + l.toNat := by
  have h1 := h.toNat_lt
  have h2 := l.toNat_lt
  unfold joinW wide
  rw [UInt16.toNat_or, UInt16.toNat_shiftLeft]
  simp only [UInt8.toNat_toUInt16]
  have e : (h.toNat <<< ((8 : UInt16).toNat % 16)) % 2 ^ 16 = h.toNat <<< 8 := by
    rw [show (8 : UInt16).toNat % 16 = 8 from rfl, Nat.shiftLeft_eq]
    omega
  rw [e, ← Nat.shiftLeft_add_eq_or_of_lt h2, Nat.shiftLeft_eq]
theorem join_int (h l : UInt8) : IntKind.u16.wrap (IntKind.u16.wrap (IntKind.u16.wrap (h.toNat : Int) * 256) + IntKind.u16.wrap (l.toNat : Int)) = ((joinW (wide h) l).toNat : Int) := by
  have h1 := h.toNat_lt
  have h2 := l.toNat_lt
  rw [join_nat]
  simp only [IntKind.wrap_u16]
  omega
theorem or80 (a : UInt8) : Go.bits .or .u8 (a.toNat : Int) 80 = ((a ||| 80).toNat : Int) := or8 a 80
theorem nm_regs : ¬ Mach 39 := by unfold Mach; decide
theorem own_blk {w : World} {base : Nat} {e : TypeId} {size n : Nat} {v : Value} {xs : List Value} (h : w.ownsRow base e size v n xs) (hn : 0 < n) : ∃ g cap cur, v = .slice (some ⟨g, 0, none⟩) n cap ∧ base ≤ g ∧ Blk w g e cur ∧ n ≤ cap ∧ cap ≤ maxLen ∧ cur.toList.take (n * size) = xs := by
  rcases h.2 with ⟨_, h0⟩ | ⟨g, cap, cur, h1, h2, h3, h4, h5, _, h6⟩
  · omega
  · exact ⟨g, cap, cur, h1, h2, h3, h4, h5, h6⟩
theorem four_pins (B : Nat) (w : World) : PinsIn B 4 (some ⟨w.heap.size, 0, none⟩) [resetPins, noPins, noPins, noPins] (w.alloc (.cells #[.bool true, .bool false, .bool false, .bool false, .bool false, .bool false, .bool false, .bool false, .bool false, .bool false, .bool false, .bool false, .bool false, .bool false, .bool false, .bool false, .bool false, .bool false, .bool false, .bool false, .bool false, .bool false, .bool false, .bool false] 48)) := fun W hW k p hp => by
  refine ⟨_, rfl, fun j v hj => ?_⟩
  have hb := hW.block _ _ _ (Blk.newAt w 48 _ w.heap.size rfl) nm_pins
  have hk : k < 4 := by
    have := (List.getElem?_eq_some_iff.1 hp).1
    simpa using this
  have hj6 : j < 6 := by
    have := (List.getElem?_eq_some_iff.1 hj).1
    simpa using this
  rw [addr_add0, addr_addn, hb.cell]
  have hk4 : k = 0 ∨ k = 1 ∨ k = 2 ∨ k = 3 := by omega
  have hj7 : j = 0 ∨ j = 1 ∨ j = 2 ∨ j = 3 ∨ j = 4 ∨ j = 5 := by omega
  rcases hk4 with rfl | rfl | rfl | rfl <;> (obtain rfl := Option.some.inj hp; rcases hj7 with rfl | rfl | rfl | rfl | rfl | rfl <;> exact hj)
set_option maxRecDepth 100000 in
set_option maxHeartbeats 16000000 in
theorem WholeReset_core (k rom : Int) (lo hi : List UInt8) (A1 A2 Ap : Option Addr) (n1 c1 n2 c2 N cp : Nat) (ps : List Sp.Pins) (w : World) (k0 : -9223372036854775808 ≤ k) (k1 : k ≤ 9223372036854775807) (r0 : -9223372036854775808 ≤ rom) (r1 : rom ≤ 9223372036854775807) (hr1 : Reads w w.heap.size 1 A1 n1 (bytesV lo)) (hr2 : Reads w w.heap.size 1 A2 n2 (bytesV hi)) (hl : ps.length = N) (hps : PinsIn w.heap.size N Ap ps w) :
    Calls Tryz.prog 4 #[.agg #[.int .i64 k, .int .i64 rom], .agg #[.slice A1 n1 c1, .slice A2 n2 c2], .slice Ap N cp] w fun e w' => e = .returned (.bool true) ∧ Below w.heap.size w w' := by
  have hb0 : Below w.heap.size w ((w.alloc (.cells #[.int .i64 k, .int .i64 rom] 23)).alloc (.cells #[.slice A1 n1 c1, .slice A2 n2 c2] 26)) := below_alloc (below_alloc (Below.refl _ _) _) _
  have hC0 : LBlk ((w.alloc (.cells #[.int .i64 k, .int .i64 rom] 23)).alloc (.cells #[.slice A1 n1 c1, .slice A2 n2 c2] 26)) w.heap.size 23 [.int .i64 k, .int .i64 rom] := Blk.alloc (Blk.newAt w 23 _ w.heap.size rfl) _
  have hW0 : LBlk ((w.alloc (.cells #[.int .i64 k, .int .i64 rom] 23)).alloc (.cells #[.slice A1 n1 c1, .slice A2 n2 c2] 26)) (w.heap.size + 1) 26 [.slice A1 n1 c1, .slice A2 n2 c2] := Blk.newAt (w.alloc (.cells #[.int .i64 k, .int .i64 rom] 23)) 26 _ (w.heap.size + 1) (by simp)
  by_cases hf : confRight k rom ∧ (N : Int) ≤ 150 ∧ n1 ≤ 65536 ∧ n2 ≤ 65536
  · obtain ⟨hcr, hN, h1, h2⟩ := hf
    have hkk := hcr.1
    have HFW := Lib.hid (fun W => Few_yes k rom 150 A1 A2 Ap n1 c1 n2 c2 N cp W k0 k1 r0 r1 hcr hN h1 h2)
    have HR1 := Lib.hid hr1
    have HR2 := Lib.hid hr2
    have HPS := Lib.hid hps
    have HWK := Lib.hid works_t
    have hN2 : N ≤ 150 := by omega
    clear hr1 hr2 hps hN
    go_enter Tryz.func4, Tryz.ntmps4
    go_upto_region 1 with fail
    generalize ((w.alloc (.cells #[.int .i64 k, .int .i64 rom] 23)).alloc (.cells #[.slice A1 n1 c1, .slice A2 n2 c2] 26)) = w0 at *
    have c0 := LBlk.cell hC0 0
    have c1' := LBlk.cell hC0 1
    have wa := LBlk.cell hW0 0
    have wb := LBlk.cell hW0 1
    simp only [List.getElem?_cons_zero, List.getElem?_cons_succ] at c0 c1' wa wb
    have hlc := LBlk.lt hC0
    have hlw := LBlk.lt hW0
    go_wp2_with fail
    refine (HFW.out _).mono ?_
    rintro e w1 ⟨rfl, hb1⟩
    have hC1 := LBlk.below hC0 hb1 hlc
    have hW1 := LBlk.below hW0 hb1 hlw
    have hbw1 := below_then hb0 hb1
    clear c0 c1' wa wb hlc hlw hC0 hW0 hb0 hb1 HFW
    have c0 := LBlk.cell hC1 0
    have c1' := LBlk.cell hC1 1
    have wa := LBlk.cell hW1 0
    have wb := LBlk.cell hW1 1
    simp only [List.getElem?_cons_zero, List.getElem?_cons_succ] at c0 c1' wa wb
    have hlc := LBlk.lt hC1
    have hlw := LBlk.lt hW1
    have HMD := Lib.hid (Made_yes k rom lo hi A1 A2 n1 c1 n2 c2 w1 hcr (reads_more (HR1.out.below hbw1) hbw1.size) (reads_more (HR2.out.below hbw1) hbw1.size) h1 h2)
    go_wp2_with fail
    refine HMD.out.mono ?_
    rintro e w2 ⟨⟨h, x, gl, mm, rfl, hM2, _, _, _⟩, hb2⟩
    have hbw2 := below_then hbw1 hb2
    have hs1 := hbw1.size
    have hs2 := hb2.size
    have hz2 := hbw2.size
    have hps2 : PinsIn w1.heap.size N Ap ps w2 := fun W hW => HPS.out W (⟨hW.os.trans hbw2.os, hW.tape.trans hbw2.tape, hW.output.trans hbw2.output, Nat.le_trans hbw2.size hW.size, fun y t xs hb ht => hW.block y t xs ((hbw2.block y hb.lt).trans hb) ht, fun y hy hs => (hW.old y (by omega) (by omega)).trans (hbw2.block y hs)⟩)
    have HRN := Lib.hid (mach_Run (c := cp) ps w2 hM2 (Cpu.new_inv k) hkk hs2 (by omega) hl hps2)
    have hI3 := runs_inv rom ps mm (Cpu.new_inv k)
    have hK3 : (runs rom ps (Cpu.new k) mm).2.1.kind = 0 ∨ (runs rom ps (Cpu.new k) mm).2.1.kind = 1 := (runs_kind rom ps (Cpu.new k) mm) ▸ hkk
    clear c0 c1' wa wb hlc hlw hC1 hW1 hb2 HMD hM2 hps2
    go_wp2_with fail
    refine HRN.out.mono ?_
    rintro e w3 ⟨⟨v3, rfl, _⟩, hM3, hF3⟩
    have hbw3 := hbw2.trans ((hF3.to_below hs2).mono hs1)
    generalize runs rom ps (Cpu.new k) mm = Y at *
    obtain ⟨rs, s3, m3⟩ := Y
    dsimp only at *
    have hs3 := hF3.size
    have HRG := Lib.hid (mach_Regs w3 hM3)
    clear HRN hF3
    go_wp2_with fail
    refine HRG.out.mono ?_
    rintro e w4 ⟨rfl, hb4⟩
    have hM4 := hM3.below hb4
    have hbw4 := below_then hbw3 hb4
    have hs4 := hb4.size
    clear hM3 hbw3 hb4 HRG
    have hM5 := hM4.below (below_alloc (Below.refl _ _) (.cells #[.int .u8 (s3.now.a.toNat : Int), .int .u8 (s3.now.b.toNat : Int), .int .u8 (s3.now.dp.toNat : Int), .int .u8 (s3.now.cc.toNat : Int), .int .u16 (s3.now.x.toNat : Int), .int .u16 (s3.now.y.toNat : Int), .int .u16 (s3.now.u.toNat : Int), .int .u16 (s3.now.s.toNat : Int), .int .u16 (s3.now.pc.toNat : Int)] 39))
    have hN5 : LBlk (w4.alloc (.cells #[.int .u8 (s3.now.a.toNat : Int), .int .u8 (s3.now.b.toNat : Int), .int .u8 (s3.now.dp.toNat : Int), .int .u8 (s3.now.cc.toNat : Int), .int .u16 (s3.now.x.toNat : Int), .int .u16 (s3.now.y.toNat : Int), .int .u16 (s3.now.u.toNat : Int), .int .u16 (s3.now.s.toNat : Int), .int .u16 (s3.now.pc.toNat : Int)] 39)) w4.heap.size 39 [.int .u8 (s3.now.a.toNat : Int), .int .u8 (s3.now.b.toNat : Int), .int .u8 (s3.now.dp.toNat : Int), .int .u8 (s3.now.cc.toNat : Int), .int .u16 (s3.now.x.toNat : Int), .int .u16 (s3.now.y.toNat : Int), .int .u16 (s3.now.u.toNat : Int), .int .u16 (s3.now.s.toNat : Int), .int .u16 (s3.now.pc.toNat : Int)] := Blk.newAt w4 _ _ w4.heap.size rfl
    have hbw5 := hbw4.alloc hbw4.size (.cells #[.int .u8 (s3.now.a.toNat : Int), .int .u8 (s3.now.b.toNat : Int), .int .u8 (s3.now.dp.toNat : Int), .int .u8 (s3.now.cc.toNat : Int), .int .u16 (s3.now.x.toNat : Int), .int .u16 (s3.now.y.toNat : Int), .int .u16 (s3.now.u.toNat : Int), .int .u16 (s3.now.s.toNat : Int), .int .u16 (s3.now.pc.toNat : Int)] 39)
    have hs5 : w4.heap.size < (w4.alloc (.cells #[.int .u8 (s3.now.a.toNat : Int), .int .u8 (s3.now.b.toNat : Int), .int .u8 (s3.now.dp.toNat : Int), .int .u8 (s3.now.cc.toNat : Int), .int .u16 (s3.now.x.toNat : Int), .int .u16 (s3.now.y.toNat : Int), .int .u16 (s3.now.u.toNat : Int), .int .u16 (s3.now.s.toNat : Int), .int .u16 (s3.now.pc.toNat : Int)] 39)).heap.size := by simp
    obtain ⟨g, gr, hl5, p5, lv5, pb5, cs5, hC5, hR5, hS5⟩ := id hM5
    have HRM5 := Lib.hid (mach_Ram _ hl5)
    have HRD5 := Lib.hid (Read_w 65534 _ hR5)
    clear hM4 hbw4 hC5
    go_wp2_with fail
    generalize w4.alloc (.cells #[.int .u8 (s3.now.a.toNat : Int), .int .u8 (s3.now.b.toNat : Int), .int .u8 (s3.now.dp.toNat : Int), .int .u8 (s3.now.cc.toNat : Int), .int .u16 (s3.now.x.toNat : Int), .int .u16 (s3.now.y.toNat : Int), .int .u16 (s3.now.u.toNat : Int), .int .u16 (s3.now.s.toNat : Int), .int .u16 (s3.now.pc.toNat : Int)] 39) = w5 at *
    refine HRM5.out.mono ?_
    rintro e w6 ⟨rfl, rfl⟩
    go_wp2_with fail
    refine HRD5.out.mono ?_
    rintro e w6 ⟨rfl, hb6⟩
    have hM6 := hM5.below hb6
    have hN6 := LBlk.below hN5 hb6 (LBlk.lt hN5)
    have hl6 := LBlk.below hl5 hb6 (LBlk.lt hl5)
    have hR6 := hR5.below hb6
    have hbw6 := below_then hbw5 hb6
    have hs6 := hb6.size
    have HRM6 := Lib.hid (mach_Ram _ hl6)
    have HRD6 := Lib.hid (Read_w 65535 _ hR6)
    clear hM5 hN5 hl5 hR5 hS5 hbw5 hb6 HRM5 HRD5 hl6 hR6
    go_wp2_with fail
    refine HRM6.out.mono ?_
    rintro e w7 ⟨rfl, rfl⟩
    go_wp2_with fail
    refine HRD6.out.mono ?_
    rintro e w7 ⟨rfl, hb7⟩
    have hM7 := hM6.below hb7
    have hN7 := LBlk.below hN6 hb7 (LBlk.lt hN6)
    have hbw7 := below_then hbw6 hb7
    have hs7 := hb7.size
    have hb8 : Below w7.heap.size w7 (w7.alloc (.cells #[.bool true, .bool false, .bool false, .bool false, .bool false, .bool false, .bool false, .bool false, .bool false, .bool false, .bool false, .bool false, .bool false, .bool false, .bool false, .bool false, .bool false, .bool false, .bool false, .bool false, .bool false, .bool false, .bool false, .bool false] 48)) := below_alloc (Below.refl _ _) _
    have hM8 := hM7.below hb8
    have hN8 := LBlk.below hN7 hb8 (LBlk.lt hN7)
    have hbw8 := below_then hbw7 hb8
    have hP8 := four_pins w1.heap.size w7
    have hs8 : w7.heap.size < (w7.alloc (.cells #[.bool true, .bool false, .bool false, .bool false, .bool false, .bool false, .bool false, .bool false, .bool false, .bool false, .bool false, .bool false, .bool false, .bool false, .bool false, .bool false, .bool false, .bool false, .bool false, .bool false, .bool false, .bool false, .bool false, .bool false] 48)).heap.size := by simp
    have HRN8 := Lib.hid (mach_Run (N := 0 + N) (n := 4) (c := 4) [resetPins, noPins, noPins, noPins] _ hM8 hI3 hK3 (by omega) (by omega) rfl hP8)
    clear hM6 hN6 hbw6 hb7 HRM6 HRD6 hM7 hN7 hbw7 hM8 hP8 hb8
    go_wp2_with fail
    generalize w7.alloc (.cells #[.bool true, .bool false, .bool false, .bool false, .bool false, .bool false, .bool false, .bool false, .bool false, .bool false, .bool false, .bool false, .bool false, .bool false, .bool false, .bool false, .bool false, .bool false, .bool false, .bool false, .bool false, .bool false, .bool false, .bool false] 48) = w8 at *
    refine HRN8.out.mono ?_
    rintro e w9 ⟨⟨v9, rfl, hown9⟩, hM9, hF9⟩
    obtain ⟨C, hrun, hnow, hmode, harmed⟩ := runs_reset rom s3 m3
    rw [hrun] at hown9 hM9
    dsimp only at hown9 hM9
    have hbw9 := hbw8.trans ((hF9.to_below (by omega)).mono hs1)
    have hN9 := hF9.lblk hN8 nm_regs
    obtain ⟨gl9, cap9, cur9, rfl, hgb9, hL9, hcap9, hcm9, hcur9⟩ := own_blk hown9 (by omega)
    have hs9 := hF9.size
    clear hN8 hbw8 HRN8 hown9 hrun hF9
    have n0 := LBlk.cell hN9 0
    have n1 := LBlk.cell hN9 1
    have n2 := LBlk.cell hN9 2
    have n3 := LBlk.cell hN9 3
    have n4 := LBlk.cell hN9 4
    have n5 := LBlk.cell hN9 5
    have n6 := LBlk.cell hN9 6
    have n7 := LBlk.cell hN9 7
    have n8 := LBlk.cell hN9 8
    simp only [List.getElem?_cons_zero, List.getElem?_cons_succ] at n0 n1 n2 n3 n4 n5 n6 n7 n8
    have fr0 := LBlk.frozen hN9 0
    have fr1 := LBlk.frozen hN9 1
    have fr2 := LBlk.frozen hN9 2
    have fr3 := LBlk.frozen hN9 3
    have fr4 := LBlk.frozen hN9 4
    have fr5 := LBlk.frozen hN9 5
    have fr6 := LBlk.frozen hN9 6
    have fr7 := LBlk.frozen hN9 7
    have fr8 := LBlk.frozen hN9 8
    have hln := LBlk.lt hN9
    go_upto_region 13 with fail
    rw [or80, join_int]
    obtain ⟨ccF, hccF⟩ : ∃ x, s3.now.cc ||| 80 = x := ⟨_, rfl⟩
    obtain ⟨pcF, hpcF⟩ : ∃ x, joinW (wide (m3 65534)) (m3 65535) = x := ⟨_, rfl⟩
    rw [hccF, hpcF]
    rw [hccF, hpcF] at hnow
    have hst := grown_set w9 (grown_set w9 (grown_set w9 (World.grownBy.refl w9 (some w4.heap.size)) 3 (.int .u8 (ccF.toNat : Int))) 2 (.int .u8 0)) 8 (.int .u16 (pcF.toNat : Int))
    have hN10 : LBlk (((w9.setCell ⟨w4.heap.size, 3, none⟩ (.int .u8 (ccF.toNat : Int))).setCell ⟨w4.heap.size, 2, none⟩ (.int .u8 0)).setCell ⟨w4.heap.size, 8, none⟩ (.int .u16 (pcF.toNat : Int))) w4.heap.size 39 [.int .u8 (s3.now.a.toNat : Int), .int .u8 (s3.now.b.toNat : Int), .int .u8 0, .int .u8 (ccF.toNat : Int), .int .u16 (s3.now.x.toNat : Int), .int .u16 (s3.now.y.toNat : Int), .int .u16 (s3.now.u.toNat : Int), .int .u16 (s3.now.s.toNat : Int), .int .u16 (pcF.toNat : Int)] := ((hN9.set_ 3 _).set_ 2 _).set_ 8 _
    have hL10 := hL9.grown hst (fun e => Blk.ne_ hL9 hN9 (by decide) (by injection e))
    have hM10 : MachAt w1.heap.size (0 + N + 4) h C m3 rom (((w9.setCell ⟨w4.heap.size, 3, none⟩ (.int .u8 (ccF.toNat : Int))).setCell ⟨w4.heap.size, 2, none⟩ (.int .u8 0)).setCell ⟨w4.heap.size, 8, none⟩ (.int .u16 (pcF.toNat : Int))) := by
      obtain ⟨g, gr, hl, hY⟩ := hM9
      exact ⟨g, gr, LBlk.grown hl hst (fun e => Blk.ne_ hl hN9 (by decide) (by injection e)), hY.other hN9 (by decide) (by decide) (by decide) (by decide) (by decide) hst⟩
    have hbw10 : Below w.heap.size w (((w9.setCell ⟨w4.heap.size, 3, none⟩ (.int .u8 (ccF.toNat : Int))).setCell ⟨w4.heap.size, 2, none⟩ (.int .u8 0)).setCell ⟨w4.heap.size, 8, none⟩ (.int .u16 (pcF.toNat : Int))) := ((hbw9.setCell (p := ⟨w4.heap.size, 3, none⟩) (by show w.heap.size ≤ w4.heap.size; omega) _).setCell (p := ⟨w4.heap.size, 2, none⟩) (by show w.heap.size ≤ w4.heap.size; omega) _).setCell (p := ⟨w4.heap.size, 8, none⟩) (by show w.heap.size ≤ w4.heap.size; omega) _
    clear hN9 hL9 hM9 hbw9 hst n0 fr0 n1 fr1 n2 fr2 n3 fr3 n4 fr4 n5 fr5 n6 fr6 n7 fr7 n8 fr8 hln
    generalize (((w9.setCell ⟨w4.heap.size, 3, none⟩ (.int .u8 (ccF.toNat : Int))).setCell ⟨w4.heap.size, 2, none⟩ (.int .u8 0)).setCell ⟨w4.heap.size, 8, none⟩ (.int .u16 (pcF.toNat : Int))) = w10 at *
    obtain ⟨⟨ll, la, lset⟩, ⟨ph, ct⟩, kd, md, rw_, nw, co⟩ := C
    dsimp only at hnow hmode harmed
    subst hnow hmode harmed
    have hq : ∀ j v, j < 36 → (recsL (quads s3 m3))[j]? = some v → cur9[j]? = some v := fun j v hj hv => by
      rw [← hcur9, List.getElem?_take, if_pos (by omega)] at hv
      simpa using hv
    have u0 : cur9[0]? = some (.int .u16 65534) := hq 0 _ (by omega) rfl
    have u4 : cur9[4]? = some (.bool false) := hq 4 _ (by omega) rfl
    have u9 : cur9[9]? = some (.int .u16 65534) := hq 9 _ (by omega) rfl
    have u13 : cur9[13]? = some (.bool true) := hq 13 _ (by omega) rfl
    have u18 : cur9[18]? = some (.int .u16 65535) := hq 18 _ (by omega) rfl
    have u22 : cur9[22]? = some (.bool true) := hq 22 _ (by omega) rfl
    have u32 : cur9[32]? = some (.bool true) := hq 32 _ (by omega) rfl
    have MS := Lib.hid (show ∀ W : World, LBlk W w4.heap.size 39 [.int .u8 (s3.now.a.toNat : Int), .int .u8 (s3.now.b.toNat : Int), .int .u8 0, .int .u8 (ccF.toNat : Int), .int .u16 (s3.now.x.toNat : Int), .int .u16 (s3.now.y.toNat : Int), .int .u16 (s3.now.u.toNat : Int), .int .u16 (s3.now.s.toNat : Int), .int .u16 (pcF.toNat : Int)] → Blk W gl9 52 cur9 → W.cell? ⟨w4.heap.size, 0, none⟩ = some (.int .u8 (s3.now.a.toNat : Int)) ∧ W.cell? ⟨w4.heap.size, 1, none⟩ = some (.int .u8 (s3.now.b.toNat : Int)) ∧ W.cell? ⟨w4.heap.size, 2, none⟩ = some (.int .u8 0) ∧ W.cell? ⟨w4.heap.size, 3, none⟩ = some (.int .u8 (ccF.toNat : Int)) ∧ W.cell? ⟨w4.heap.size, 4, none⟩ = some (.int .u16 (s3.now.x.toNat : Int)) ∧ W.cell? ⟨w4.heap.size, 5, none⟩ = some (.int .u16 (s3.now.y.toNat : Int)) ∧ W.cell? ⟨w4.heap.size, 6, none⟩ = some (.int .u16 (s3.now.u.toNat : Int)) ∧ W.cell? ⟨w4.heap.size, 7, none⟩ = some (.int .u16 (s3.now.s.toNat : Int)) ∧ W.cell? ⟨w4.heap.size, 8, none⟩ = some (.int .u16 (pcF.toNat : Int)) ∧ W.cell? ⟨gl9, 0, none⟩ = some (.int .u16 65534) ∧ W.cell? ⟨gl9, 4, none⟩ = some (.bool false) ∧ W.cell? ⟨gl9, 9, none⟩ = some (.int .u16 65534) ∧ W.cell? ⟨gl9, 13, none⟩ = some (.bool true) ∧ W.cell? ⟨gl9, 18, none⟩ = some (.int .u16 65535) ∧ W.cell? ⟨gl9, 22, none⟩ = some (.bool true) ∧ W.cell? ⟨gl9, 32, none⟩ = some (.bool true) from fun W hN hL => ⟨LBlk.cell hN 0, LBlk.cell hN 1, LBlk.cell hN 2, LBlk.cell hN 3, LBlk.cell hN 4, LBlk.cell hN 5, LBlk.cell hN 6, LBlk.cell hN 7, LBlk.cell hN 8, (hL.cell 0).trans u0, (hL.cell 4).trans u4, (hL.cell 9).trans u9, (hL.cell 13).trans u13, (hL.cell 18).trans u18, (hL.cell 22).trans u22, (hL.cell 32).trans u32⟩)
    have hNd := Lib.hid (LBlk.drew hN10)
    have hLd := Lib.hid (Blk.drew hL10)
    have hMd := Lib.hid (hM10.below (Below.refl _ _).drew)
    have hBd := Lib.hid hbw10.drew
    have HRG := mach_Regs w10.drew hMd.out
    dsimp only at HRG
    have HRGh := Lib.hid HRG
    have HMO := Lib.hid (fun (W : World) hM => show Calls Tryz.prog 7 #[.pointer (some ⟨h, 0, none⟩)] W fun e w' => e = .returned (.int .i64 0) ∧ W = w' from mach_Mode (B := w1.heap.size) (N := 0 + N + 4) (s := ⟨⟨ll, false, lset⟩, ⟨ph, ct⟩, kd, 0, rw_, ⟨s3.now.a, s3.now.b, 0, ccF, s3.now.x, s3.now.y, s3.now.u, s3.now.s, pcF⟩, co⟩) (m := m3) (rom := rom) W hM)
    have HST := Lib.hid (fun (W : World) hM (hW : w1.heap.size ≤ W.heap.size) => mach_State (B := w1.heap.size) (N := 0 + N + 4) (h := h) (s := ⟨⟨ll, false, lset⟩, ⟨ph, ct⟩, kd, 0, rw_, ⟨s3.now.a, s3.now.b, 0, ccF, s3.now.x, s3.now.y, s3.now.u, s3.now.s, pcF⟩, co⟩) (m := m3) (rom := rom) W hM hW (by omega))
    have hzb := hBd.out.size
    have hzz : w1.heap.size ≤ w10.drew.heap.size := by have := LBlk.lt hNd.out; omega
    obtain ⟨y0, y1, y2, y3, y4, y5, y6, y7, y8, q0, q4, q9, q13, q18, q22, q32⟩ := MS.out w10 hN10 hL10
    have hzn := LBlk.lt hN10
    have hzl := Blk.lt hL10
    clear HRG hN10 hL10 hM10 hbw10 hq u0 u4 u9 u13 u18 u22 u32 hcur9
    have HF1 := Lib.hid (show ∀ (As : Option Addr) (ns cs2 : Nat) (W : World), (Instr.field 69 (.agg #[.int .i64 0, .int .i64 rw_, .slice As ns cs2, .int .u8 (s3.now.a.toNat : Int), .int .u8 (s3.now.b.toNat : Int), .int .u8 0, .int .u8 (ccF.toNat : Int), .int .u16 (s3.now.x.toNat : Int), .int .u16 (s3.now.y.toNat : Int), .int .u16 (s3.now.u.toNat : Int), .int .u16 (s3.now.s.toNat : Int), .int .u16 (pcF.toNat : Int), .bool ll, .bool false, .bool lset, .int .i64 ph, .int .i64 ct]) 4).run Tryz.prog W = .ok (.agg #[.bool ll, .bool false, .bool lset]) W from fun _ _ _ _ => by kernel_rfl)
    have hf2 : ∀ W : World, (Instr.field 65 (.agg #[.bool ll, .bool false, .bool lset]) 1).run Tryz.prog W = .ok (.bool false) W := fun _ => by kernel_rfl
    simp only [List.append]
    go_region_held3 (fun W => W.cell? ⟨w4.heap.size, 0, none⟩ = some (.int .u8 (s3.now.a.toNat : Int)) ∧ W.cell? ⟨w4.heap.size, 1, none⟩ = some (.int .u8 (s3.now.b.toNat : Int)) ∧ W.cell? ⟨w4.heap.size, 2, none⟩ = some (.int .u8 0) ∧ W.cell? ⟨w4.heap.size, 3, none⟩ = some (.int .u8 (ccF.toNat : Int)) ∧ W.cell? ⟨w4.heap.size, 4, none⟩ = some (.int .u16 (s3.now.x.toNat : Int)) ∧ W.cell? ⟨w4.heap.size, 5, none⟩ = some (.int .u16 (s3.now.y.toNat : Int)) ∧ W.cell? ⟨w4.heap.size, 6, none⟩ = some (.int .u16 (s3.now.u.toNat : Int)) ∧ W.cell? ⟨w4.heap.size, 7, none⟩ = some (.int .u16 (s3.now.s.toNat : Int)) ∧ W.cell? ⟨w4.heap.size, 8, none⟩ = some (.int .u16 (pcF.toNat : Int)) ∧ W.cell? ⟨gl9, 0, none⟩ = some (.int .u16 65534) ∧ W.cell? ⟨gl9, 4, none⟩ = some (.bool false) ∧ W.cell? ⟨gl9, 9, none⟩ = some (.int .u16 65534) ∧ W.cell? ⟨gl9, 13, none⟩ = some (.bool true) ∧ W.cell? ⟨gl9, 18, none⟩ = some (.int .u16 65535) ∧ W.cell? ⟨gl9, 22, none⟩ = some (.bool true) ∧ W.cell? ⟨gl9, 32, none⟩ = some (.bool true)) (first | with_reducible exact ⟨y0, y1, y2, y3, y4, y5, y6, y7, y8, q0, q4, q9, q13, q18, q22, q32⟩ | (go_keep; done)) (first | (go_at_call 8; refine HRGh.out.mono ?_; rintro e w11 ⟨rfl, hb11⟩; have hN11 := LBlk.below hNd.out hb11 (LBlk.lt hNd.out); have hL11 := Blk.below hLd.out hb11 (Blk.lt hLd.out); have hM11 := MachAt.below hMd.out hb11; have hB11 := below_then hBd.out hb11; obtain ⟨y0, y1, y2, y3, y4, y5, y6, y7, y8, q0, q4, q9, q13, q18, q22, q32⟩ := MS.out w11 hN11 hL11; have hzn11 := LBlk.lt hN11; have hzl11 := Blk.lt hL11; have hs11 := hb11.size) | (go_at_call 7; refine (HMO.out _ hM11).mono ?_; rintro e w12 ⟨rfl, rfl⟩) | (go_at_call 17; refine (HST.out _ hM11 (Nat.le_trans hzz hs11)).mono ?_; rintro e w13 ⟨⟨As, ns, cs2, rfl⟩, hb13⟩; have hN13 := LBlk.below hN11 hb13 (LBlk.lt hN11); have hL13 := Blk.below hL11 hb13 (Blk.lt hL11); have hM13 := MachAt.below hM11 hb13; have hB13 := below_then hB11 hb13; obtain ⟨y0, y1, y2, y3, y4, y5, y6, y7, y8, q0, q4, q9, q13, q18, q22, q32⟩ := MS.out w13 hN13 hL13; have hzn13 := LBlk.lt hN13; have hzl13 := Blk.lt hL13; have hf1 := HF1.out As ns cs2) | (go_at_call 13; refine (HWK.out _).mono ?_; rintro e w14 ⟨rfl, hb14⟩; have hN14 := LBlk.below hN13 hb14 (LBlk.lt hN13); have hL14 := Blk.below hL13 hb14 (Blk.lt hL13); have hM14 := MachAt.below hM13 hb14; have hB14 := below_then hB13 hb14; obtain ⟨y0, y1, y2, y3, y4, y5, y6, y7, y8, q0, q4, q9, q13, q18, q22, q32⟩ := MS.out w14 hN14 hL14; have hzn14 := LBlk.lt hN14; have hzl14 := Blk.lt hL14))
    all_goals
      go_wp2
      go_ret
      exact ⟨rfl, hB14⟩
  · have HFW := Lib.hid (fun W => Few_no k rom 150 A1 A2 Ap n1 c1 n2 c2 N cp W k0 k1 r0 r1 hf)
    clear hf
    go_enter Tryz.func4, Tryz.ntmps4
    go_upto_region 1 with fail
    generalize ((w.alloc (.cells #[.int .i64 k, .int .i64 rom] 23)).alloc (.cells #[.slice A1 n1 c1, .slice A2 n2 c2] 26)) = w0 at *
    have c0 := LBlk.cell hC0 0
    have c1' := LBlk.cell hC0 1
    have wa := LBlk.cell hW0 0
    have wb := LBlk.cell hW0 1
    simp only [List.getElem?_cons_zero, List.getElem?_cons_succ] at c0 c1' wa wb
    have hlc := LBlk.lt hC0
    have hlw := LBlk.lt hW0
    go_wp2_with fail
    refine (HFW.out _).mono ?_
    rintro e w1 ⟨rfl, hb1⟩
    have hbw1 := below_then hb0 hb1
    clear c0 c1' wa wb hlc hlw hC0 hW0 hb0 hb1 HFW
    go_wp2
    go_ret
    exact ⟨rfl, hbw1⟩
end Go.Proofs.YtkdaphkpllgmbaaGreat

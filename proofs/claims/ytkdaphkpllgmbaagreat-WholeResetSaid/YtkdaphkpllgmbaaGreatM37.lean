/-
  A new machine.
  The law's own small functions: may there be such a machine; a machine made of a world.
-/
import Derived.Test.YtkdaphkpllgmbaaGreatM36
import Derived.Test.YtkdaphkpllgmbaaGreatM05
namespace Go.Proofs.YtkdaphkpllgmbaaGreat
open Go.RowKit Sp
set_option linter.unusedVariables false
set_option linter.unusedSimpArgs false
theorem reads_more {w : World} {B B' size n : Nat} {A : Option Addr} {xs : List Value} (h : Reads w B size A n xs) (hB : B ≤ B') : Reads w B' size A n xs :=
  ⟨h.1, fun h0 => by obtain ⟨ad, h1, h2, h3⟩ := h.2 h0; exact ⟨ad, h1, Nat.lt_of_lt_of_le h2 hB, h3⟩⟩
theorem RamAt.weaken_ {B B' g : Nat} {m : Nat → UInt8} {rom : Int} {pb : Nat → Option Nat} {cs : Array Value} {w : World} (h : RamAt B g m rom pb cs w) (hB : B' ≤ B) : RamAt B' g m rom pb cs w :=
  ⟨Nat.le_trans hB h.hB, h.blk, h.size, h.romc, h.cell, h.nilp, fun i b hi e => by
    obtain ⟨h1, h2, h3⟩ := h.page i b hi e
    exact ⟨h1, Nat.le_trans hB h2, h3⟩, h.inj⟩
set_option maxRecDepth 100000 in
set_option maxHeartbeats 8000000 in
theorem machRestore (B : Nat) (k rom : Int) (hk : k = 0 ∨ k = 1) (hr0 : 0 ≤ rom) (hr1 : rom ≤ 65536) (l : List UInt8) (A : Option Addr) (n c : Nat) (w : World) (hr : Reads w w.heap.size 1 A n (bytesV l)) (hn : n ≤ 65536) (hB : B ≤ w.heap.size) :
    Calls Tryz.prog 32 #[.agg #[.int .i64 k, .int .i64 rom], .agg #[.int .i64 0, .int .i64 0, .slice none 0 0, .int .u8 0, .int .u8 0, .int .u8 0, .int .u8 0, .int .u16 0, .int .u16 0, .int .u16 0, .int .u16 0, .int .u16 0, .bool false, .bool false, .bool false, .int .i64 0, .int .i64 0], .slice A n c] w fun e w' => (∃ h, e = .returned (.tuple #[.pointer (some ⟨h, 0, none⟩), .int .i64 0]) ∧ MachAt B 0 h (Cpu.new k) (updL (fun _ => 0) 0 l) rom w') ∧ Below w.heap.size w w' := by
  have hb0 : Below w.heap.size w ((w.alloc (.cells #[.int .i64 k, .int .i64 rom] 23)).alloc (.cells #[.int .i64 0, .int .i64 0, .slice none 0 0, .int .u8 0, .int .u8 0, .int .u8 0, .int .u8 0, .int .u16 0, .int .u16 0, .int .u16 0, .int .u16 0, .int .u16 0, .bool false, .bool false, .bool false, .int .i64 0, .int .i64 0] 69)) := below_alloc (below_alloc (Below.refl _ _) _) _
  have hC0 : LBlk ((w.alloc (.cells #[.int .i64 k, .int .i64 rom] 23)).alloc (.cells #[.int .i64 0, .int .i64 0, .slice none 0 0, .int .u8 0, .int .u8 0, .int .u8 0, .int .u8 0, .int .u16 0, .int .u16 0, .int .u16 0, .int .u16 0, .int .u16 0, .bool false, .bool false, .bool false, .int .i64 0, .int .i64 0] 69)) w.heap.size 23 [.int .i64 k, .int .i64 rom] := Blk.alloc (Blk.newAt w 23 _ w.heap.size rfl) _
  have hS0 : Blk ((w.alloc (.cells #[.int .i64 k, .int .i64 rom] 23)).alloc (.cells #[.int .i64 0, .int .i64 0, .slice none 0 0, .int .u8 0, .int .u8 0, .int .u8 0, .int .u8 0, .int .u16 0, .int .u16 0, .int .u16 0, .int .u16 0, .int .u16 0, .bool false, .bool false, .bool false, .int .i64 0, .int .i64 0] 69)) (w.heap.size + 1) 69 #[.int .i64 0, .int .i64 0, .slice none 0 0, .int .u8 0, .int .u8 0, .int .u8 0, .int .u8 0, .int .u16 0, .int .u16 0, .int .u16 0, .int .u16 0, .int .u16 0, .bool false, .bool false, .bool false, .int .i64 0, .int .i64 0] := Blk.newAt (w.alloc (.cells #[.int .i64 k, .int .i64 rom] 23)) 69 _ (w.heap.size + 1) (by simp)
  have he : confErr k rom = 0 := by unfold confErr; rw [if_pos hk, if_pos ⟨hr0, hr1⟩]
  have HCK := Lib.hid (fun W => he ▸ Check_any k rom W (by omega) (by omega) (by omega) (by omega))
  have HR := Lib.hid hr
  have HRS := Lib.hid (fun W (h : B ≤ W.heap.size) => cpuRestore_0 B k hk W h)
  clear hk he hr
  go_enter Tryz.func32, Tryz.ntmps32
  go_upto_region 1 with fail
  generalize ((w.alloc (.cells #[.int .i64 k, .int .i64 rom] 23)).alloc (.cells #[.int .i64 0, .int .i64 0, .slice none 0 0, .int .u8 0, .int .u8 0, .int .u8 0, .int .u8 0, .int .u16 0, .int .u16 0, .int .u16 0, .int .u16 0, .int .u16 0, .bool false, .bool false, .bool false, .int .i64 0, .int .i64 0] 69)) = w0 at *
  have c0 := LBlk.cell hC0 0
  have c1 := LBlk.cell hC0 1
  simp only [List.getElem?_cons_zero, List.getElem?_cons_succ] at c0 c1
  have hlc := LBlk.lt hC0
  go_wp2_with fail
  refine (HCK.out _).mono ?_
  rintro e w1 ⟨rfl, hb1⟩
  have hC1 := LBlk.below hC0 hb1 hlc
  have hS1 := hS0.below hb1 hS0.lt
  have hbw1 := below_then hb0 hb1
  clear c0 c1 hlc hC0 hS0 HCK
  have c0 := LBlk.cell hC1 0
  have c1 := LBlk.cell hC1 1
  simp only [List.getElem?_cons_zero, List.getElem?_cons_succ] at c0 c1
  have hlc := LBlk.lt hC1
  have HN := Lib.hid (New_any l A n c rom w1 (reads_more (HR.out.below hbw1) hbw1.size) hn hr0 hr1)
  go_wp2_with fail
  refine HN.out.mono ?_
  rintro e w2 ⟨rfl, ⟨pb, cs, hR2⟩, hb2⟩
  have hC2 := LBlk.below hC1 hb2 hlc
  have hS2 := hS1.below hb2 hS1.lt
  have hbw2 := below_then hbw1 hb2
  have hs1 := hbw1.size
  have hs2 := hbw2.size
  clear c0 c1 hlc hC1 hS1 HN
  have c0 := LBlk.cell hC2 0
  have c1 := LBlk.cell hC2 1
  simp only [List.getElem?_cons_zero, List.getElem?_cons_succ] at c0 c1
  have hlc := LBlk.lt hC2
  have z0 := hS2.cell 0
  have z1 := hS2.cell 1
  have z2 := hS2.cell 2
  have z3 := hS2.cell 3
  have z4 := hS2.cell 4
  have z5 := hS2.cell 5
  have z6 := hS2.cell 6
  have z7 := hS2.cell 7
  have z8 := hS2.cell 8
  have z9 := hS2.cell 9
  have z10 := hS2.cell 10
  have z11 := hS2.cell 11
  have z12 := hS2.cell 12
  have z13 := hS2.cell 13
  have z14 := hS2.cell 14
  have z15 := hS2.cell 15
  have z16 := hS2.cell 16
  simp only [List.getElem?_toArray, List.getElem?_cons_zero, List.getElem?_cons_succ] at z0 z1 z2 z3 z4 z5 z6 z7 z8 z9 z10 z11 z12 z13 z14 z15 z16
  have hlz := hS2.lt
  go_wp2_with fail
  refine (HRS.out _ (by omega)).mono ?_
  rintro e w3 ⟨⟨g, p, rfl, hCP⟩, hb3⟩
  have hR3 := (hR2.weaken_ (B' := B) (by omega)).below hb3
  have hbw3 := below_then hbw2 hb3
  have hgl := hCP.lt
  clear z0 z1 z2 z3 z4 z5 z6 z7 z8 z9 z10 z11 z12 z13 z14 z15 z16 c0 c1 hlc hlz hC2 hS2
  go_wp2
  go_ret2
  refine ⟨⟨w3.heap.size, rfl, g, w1.heap.size, Blk.newAt w3 82 #[.pointer (some ⟨g, 0, none⟩), .pointer (some ⟨w1.heap.size, 0, none⟩)] w3.heap.size rfl, ⟨p, _, pb, cs, hCP.alloc _, hR3.below (below_alloc (Below.refl _ _) _), fun i hi k hk => by cases hk⟩⟩, hbw3.alloc hbw3.size _⟩
set_option maxRecDepth 100000 in
set_option maxHeartbeats 8000000 in
theorem machNew (B : Nat) (k rom : Int) (hk : k = 0 ∨ k = 1) (hr0 : 0 ≤ rom) (hr1 : rom ≤ 65536) (l : List UInt8) (A : Option Addr) (n c : Nat) (w : World) (hr : Reads w w.heap.size 1 A n (bytesV l)) (hn : n ≤ 65536) (hB : B ≤ w.heap.size) :
    Calls Tryz.prog 20 #[.agg #[.int .i64 k, .int .i64 rom], .slice A n c] w fun e w' => (∃ h, e = .returned (.tuple #[.pointer (some ⟨h, 0, none⟩), .int .i64 0]) ∧ MachAt B 0 h (Cpu.new k) (updL (fun _ => 0) 0 l) rom w') ∧ Below w.heap.size w w' := by
  have hb0 : Below w.heap.size w (w.alloc (.cells #[.int .i64 k, .int .i64 rom] 23)) := below_alloc (Below.refl _ _) _
  have HRS := Lib.hid (machRestore B k rom hk hr0 hr1 l A n c (w.alloc (.cells #[.int .i64 k, .int .i64 rom] 23)) (reads_more (hr.below hb0) hb0.size) hn (by simp; omega))
  go_enter Tryz.func20, Tryz.ntmps20
  go_wp2_with fail
  refine HRS.out.mono ?_
  rintro e w3 ⟨⟨h, rfl, hM⟩, hb3⟩
  go_wp2
  go_ret2
  exact ⟨⟨h, rfl, hM⟩, below_then hb0 hb3⟩
end Go.Proofs.YtkdaphkpllgmbaaGreat
namespace Go.Proofs.YtkdaphkpllgmbaaGreat
open Go.RowKit Sp
set_option linter.unusedVariables false
set_option linter.unusedSimpArgs false
set_option maxHeartbeats 2000000 in
theorem Right34 (k r : Int) (w : World) (k0 : -9223372036854775808 ≤ k) (k1 : k ≤ 9223372036854775807) (r0 : -9223372036854775808 ≤ r) (r1 : r ≤ 9223372036854775807) :
    Calls Tryz.prog 18 #[.agg #[.int .i64 k, .int .i64 r]] w fun e w' => e = .returned (.bool (decide (confRight k r))) ∧ Below w.heap.size w w' := by
  have three : k = 0 ∨ k = 1 ∨ (k ≠ 0 ∧ k ≠ 1) := by omega
  have threeR : r < 0 ∨ (0 ≤ r ∧ r ≤ 65536) ∨ 65536 < r := by omega
  rcases three with rfl | rfl | ⟨h1, h2⟩
  · rcases threeR with h | ⟨h, h'⟩ | h
    · have HD : Hid (decide (confRight 0 r) = false) := decide_eq_false (by unfold confRight; omega)
      go_enter Tryz.func18, Tryz.ntmps18
      go_wp2
      go_ret
      rw [HD.out]
      exact ⟨rfl, below_alloc (Below.refl _ _) _⟩
    · have HD : Hid (decide (confRight 0 r) = true) := decide_eq_true (by unfold confRight; omega)
      go_enter Tryz.func18, Tryz.ntmps18
      go_wp2
      go_ret
      rw [HD.out]
      exact ⟨by first | rfl | (simp; done) | (simp; omega), below_alloc (Below.refl _ _) _⟩
    · have HD : Hid (decide (confRight 0 r) = false) := decide_eq_false (by unfold confRight; omega)
      go_enter Tryz.func18, Tryz.ntmps18
      go_wp2
      go_ret
      rw [HD.out]
      exact ⟨by first | rfl | (simp; done) | (simp; omega), below_alloc (Below.refl _ _) _⟩
  · rcases threeR with h | ⟨h, h'⟩ | h
    · have HD : Hid (decide (confRight 1 r) = false) := decide_eq_false (by unfold confRight; omega)
      go_enter Tryz.func18, Tryz.ntmps18
      go_wp2
      go_ret
      rw [HD.out]
      exact ⟨rfl, below_alloc (Below.refl _ _) _⟩
    · have HD : Hid (decide (confRight 1 r) = true) := decide_eq_true (by unfold confRight; omega)
      go_enter Tryz.func18, Tryz.ntmps18
      go_wp2
      go_ret
      rw [HD.out]
      exact ⟨by first | rfl | (simp; done) | (simp; omega), below_alloc (Below.refl _ _) _⟩
    · have HD : Hid (decide (confRight 1 r) = false) := decide_eq_false (by unfold confRight; omega)
      go_enter Tryz.func18, Tryz.ntmps18
      go_wp2
      go_ret
      rw [HD.out]
      exact ⟨by first | rfl | (simp; done) | (simp; omega), below_alloc (Below.refl _ _) _⟩
  · have b1 : (k == 0) = false := beq_eq_false_iff_ne.2 h1
    have b2 : (k == 1) = false := beq_eq_false_iff_ne.2 h2
    have HD : Hid (decide (confRight k r) = false) := decide_eq_false (by unfold confRight; omega)
    clear h1 h2 threeR
    go_enter Tryz.func18, Tryz.ntmps18
    go_wp2
    go_ret
    rw [HD.out]
    exact ⟨rfl, below_alloc (Below.refl _ _) _⟩
set_option maxRecDepth 100000 in
set_option maxHeartbeats 8000000 in
theorem Few_yes (k rom most : Int) (A1 A2 Ap : Option Addr) (n1 c1 n2 c2 N cp : Nat) (w : World) (k0 : -9223372036854775808 ≤ k) (k1 : k ≤ 9223372036854775807) (r0 : -9223372036854775808 ≤ rom) (r1 : rom ≤ 9223372036854775807) (hc : confRight k rom) (hN : (N : Int) ≤ most) (h1 : n1 ≤ 65536) (h2 : n2 ≤ 65536) :
    Calls Tryz.prog 5 #[.agg #[.int .i64 k, .int .i64 rom], .agg #[.slice A1 n1 c1, .slice A2 n2 c2], .slice Ap N cp, .int .i64 most] w fun e w' => e = .returned (.bool true) ∧ Below w.heap.size w w' := by
  have hb0 : Below w.heap.size w ((w.alloc (.cells #[.int .i64 k, .int .i64 rom] 23)).alloc (.cells #[.slice A1 n1 c1, .slice A2 n2 c2] 26)) := below_alloc (below_alloc (Below.refl _ _) _) _
  have hC0 : LBlk ((w.alloc (.cells #[.int .i64 k, .int .i64 rom] 23)).alloc (.cells #[.slice A1 n1 c1, .slice A2 n2 c2] 26)) w.heap.size 23 [.int .i64 k, .int .i64 rom] := Blk.alloc (Blk.newAt w 23 _ w.heap.size rfl) _
  have hW0 : LBlk ((w.alloc (.cells #[.int .i64 k, .int .i64 rom] 23)).alloc (.cells #[.slice A1 n1 c1, .slice A2 n2 c2] 26)) (w.heap.size + 1) 26 [.slice A1 n1 c1, .slice A2 n2 c2] := Blk.newAt (w.alloc (.cells #[.int .i64 k, .int .i64 rom] 23)) 26 _ (w.heap.size + 1) (by simp)
  have HR := Lib.hid (fun W => (decide_eq_true hc) ▸ Right34 k rom W k0 k1 r0 r1)
  have e1 : ((N : Int) ≤ most) = True := eq_true hN
  have e2 : ((n1 : Int) ≤ 65536) = True := eq_true (by omega)
  have e3 : ((n2 : Int) ≤ 65536) = True := eq_true (by omega)
  clear hc hN h1 h2
  go_enter Tryz.func5, Tryz.ntmps5
  go_upto_region 1 with fail
  generalize ((w.alloc (.cells #[.int .i64 k, .int .i64 rom] 23)).alloc (.cells #[.slice A1 n1 c1, .slice A2 n2 c2] 26)) = w0 at *
  have c0 := LBlk.cell hC0 0
  have c1' := LBlk.cell hC0 1
  have wa := LBlk.cell hW0 0
  have wb := LBlk.cell hW0 1
  simp only [List.getElem?_cons_zero, List.getElem?_cons_succ] at c0 c1' wa wb
  have hlc := LBlk.lt hC0
  have hlw := LBlk.lt hW0
  go_wp2_with fail
  refine (HR.out _).mono ?_
  rintro e w1 ⟨rfl, hb1⟩
  have hW1 := LBlk.below hW0 hb1 hlw
  have hbw := below_then hb0 hb1
  clear c0 c1' wa wb hlc hlw hC0 hW0 hb0 hb1 HR
  have wa := LBlk.cell hW1 0
  have wb := LBlk.cell hW1 1
  simp only [List.getElem?_cons_zero, List.getElem?_cons_succ] at wa wb
  have hlw := LBlk.lt hW1
  go_wp2
  go_ret
  exact ⟨rfl, hbw⟩
set_option maxRecDepth 100000 in
set_option maxHeartbeats 8000000 in
theorem Few_no (k rom most : Int) (A1 A2 Ap : Option Addr) (n1 c1 n2 c2 N cp : Nat) (w : World) (k0 : -9223372036854775808 ≤ k) (k1 : k ≤ 9223372036854775807) (r0 : -9223372036854775808 ≤ rom) (r1 : rom ≤ 9223372036854775807) (hc : ¬ (confRight k rom ∧ (N : Int) ≤ most ∧ n1 ≤ 65536 ∧ n2 ≤ 65536)) :
    Calls Tryz.prog 5 #[.agg #[.int .i64 k, .int .i64 rom], .agg #[.slice A1 n1 c1, .slice A2 n2 c2], .slice Ap N cp, .int .i64 most] w fun e w' => e = .returned (.bool false) ∧ Below w.heap.size w w' := by
  have hb0 : Below w.heap.size w ((w.alloc (.cells #[.int .i64 k, .int .i64 rom] 23)).alloc (.cells #[.slice A1 n1 c1, .slice A2 n2 c2] 26)) := below_alloc (below_alloc (Below.refl _ _) _) _
  have hC0 : LBlk ((w.alloc (.cells #[.int .i64 k, .int .i64 rom] 23)).alloc (.cells #[.slice A1 n1 c1, .slice A2 n2 c2] 26)) w.heap.size 23 [.int .i64 k, .int .i64 rom] := Blk.alloc (Blk.newAt w 23 _ w.heap.size rfl) _
  have hW0 : LBlk ((w.alloc (.cells #[.int .i64 k, .int .i64 rom] 23)).alloc (.cells #[.slice A1 n1 c1, .slice A2 n2 c2] 26)) (w.heap.size + 1) 26 [.slice A1 n1 c1, .slice A2 n2 c2] := Blk.newAt (w.alloc (.cells #[.int .i64 k, .int .i64 rom] 23)) 26 _ (w.heap.size + 1) (by simp)
  have HR := Lib.hid (fun W => Right34 k rom W k0 k1 r0 r1)
  obtain ⟨b, hb⟩ : ∃ b, decide (confRight k rom) = b := ⟨_, rfl⟩
  rw [hb] at HR
  have h4 : b = false ∨ (b = true ∧ most < (N : Int)) ∨ (b = true ∧ (N : Int) ≤ most ∧ 65536 < n1) ∨ (b = true ∧ (N : Int) ≤ most ∧ n1 ≤ 65536 ∧ 65536 < n2) := by
    cases b
    · exact .inl rfl
    · have hcr : confRight k rom := of_decide_eq_true hb
      have h5 : ¬ ((N : Int) ≤ most ∧ n1 ≤ 65536 ∧ n2 ≤ 65536) := fun h => hc ⟨hcr, h⟩
      by_cases a1 : (N : Int) ≤ most
      · by_cases a2 : n1 ≤ 65536
        · exact .inr (.inr (.inr ⟨rfl, a1, a2, by omega⟩))
        · exact .inr (.inr (.inl ⟨rfl, a1, by omega⟩))
      · exact .inr (.inl ⟨rfl, by omega⟩)
  clear hc hb
  go_enter Tryz.func5, Tryz.ntmps5
  go_upto_region 1 with fail
  generalize ((w.alloc (.cells #[.int .i64 k, .int .i64 rom] 23)).alloc (.cells #[.slice A1 n1 c1, .slice A2 n2 c2] 26)) = w0 at *
  have c0 := LBlk.cell hC0 0
  have c1' := LBlk.cell hC0 1
  have wa := LBlk.cell hW0 0
  have wb := LBlk.cell hW0 1
  simp only [List.getElem?_cons_zero, List.getElem?_cons_succ] at c0 c1' wa wb
  have hlc := LBlk.lt hC0
  have hlw := LBlk.lt hW0
  go_wp2_with fail
  refine (HR.out _).mono ?_
  rintro e w1 ⟨rfl, hb1⟩
  have hW1 := LBlk.below hW0 hb1 hlw
  have hbw := below_then hb0 hb1
  clear c0 c1' wa wb hlc hlw hC0 hW0 hb0 hb1 HR
  have wa := LBlk.cell hW1 0
  have wb := LBlk.cell hW1 1
  simp only [List.getElem?_cons_zero, List.getElem?_cons_succ] at wa wb
  have hlw := LBlk.lt hW1
  rcases h4 with rfl | ⟨rfl, a1⟩ | ⟨rfl, a1, a2⟩ | ⟨rfl, a1, a2, a3⟩
  · go_wp2
    go_ret
    exact ⟨rfl, hbw⟩
  · have e1 : ((N : Int) ≤ most) = False := eq_false (by omega)
    go_wp2
    go_ret
    exact ⟨by first | rfl | simp | (simp; omega), hbw⟩
  · have e1 : ((N : Int) ≤ most) = True := eq_true a1
    have e2 : ((n1 : Int) ≤ 65536) = False := eq_false (by omega)
    go_wp2
    go_ret
    exact ⟨by first | rfl | simp | (simp; omega), hbw⟩
  · have e1 : ((N : Int) ≤ most) = True := eq_true a1
    have e2 : ((n1 : Int) ≤ 65536) = True := eq_true (by omega)
    have e3 : ((n2 : Int) ≤ 65536) = False := eq_false (by omega)
    go_wp2
    go_ret
    exact ⟨by first | rfl | simp | (simp; omega), hbw⟩
def sZero (k rom : Int) (A : Option Addr) (n c : Nat) : List Value := [.int .i64 k, .slice A n c, .slice none 0 0, .int .i64 rom, .int .u8 0, .int .u8 0, .int .u8 0, .int .u8 0, .int .u16 0, .int .u16 0, .int .u16 0, .int .u16 0, .int .u16 0, .int .i64 0, .int .i64 0, .int .i64 0, .int .u8 0, .int .u8 0, .int .u8 0, .int .u8 0, .int .u16 0, .int .u16 0, .int .u16 0, .int .u16 0, .int .u16 0, .slice none 0 0, .slice none 0 0, .int .i64 0, .slice none 0 0, .int .i64 0, .bool false, .bool false, .bool false, .bool false, .int .i64 0, .int .i64 0]
theorem below_row {B : Nat} {u w : World} {g : Nat} (hb : Below B u w) (hx : B ≤ g) (cs : Array Value) : Below B u (w.setRow g cs) :=
  ⟨hb.os, hb.tape, hb.output, by simpa using hb.size, fun q hq => (setRow_other w g q cs (by omega)).trans (hb.block q hq)⟩
set_option maxRecDepth 100000 in
set_option maxHeartbeats 8000000 in
theorem New34 (k rom : Int) (A : Option Addr) (n c : Nat) (w : World) :
    Calls Tryz.prog 21 #[.agg #[.int .i64 k, .int .i64 rom], .slice A n c] w fun e w' => e = .returned (.agg (sZero k rom A n c).toArray) ∧ Below w.heap.size w w' := by
  have hb0 : Below w.heap.size w ((w.alloc (.cells #[.int .i64 k, .int .i64 rom] 23)).alloc (.cells #[.int .i64 0, .slice none 0 0, .slice none 0 0, .int .i64 0, .int .u8 0, .int .u8 0, .int .u8 0, .int .u8 0, .int .u16 0, .int .u16 0, .int .u16 0, .int .u16 0, .int .u16 0, .int .i64 0, .int .i64 0, .int .i64 0, .int .u8 0, .int .u8 0, .int .u8 0, .int .u8 0, .int .u16 0, .int .u16 0, .int .u16 0, .int .u16 0, .int .u16 0, .slice none 0 0, .slice none 0 0, .int .i64 0, .slice none 0 0, .int .i64 0, .bool false, .bool false, .bool false, .bool false, .int .i64 0, .int .i64 0] 44)) := below_alloc (below_alloc (Below.refl _ _) _) _
  have hC0 : LBlk ((w.alloc (.cells #[.int .i64 k, .int .i64 rom] 23)).alloc (.cells #[.int .i64 0, .slice none 0 0, .slice none 0 0, .int .i64 0, .int .u8 0, .int .u8 0, .int .u8 0, .int .u8 0, .int .u16 0, .int .u16 0, .int .u16 0, .int .u16 0, .int .u16 0, .int .i64 0, .int .i64 0, .int .i64 0, .int .u8 0, .int .u8 0, .int .u8 0, .int .u8 0, .int .u16 0, .int .u16 0, .int .u16 0, .int .u16 0, .int .u16 0, .slice none 0 0, .slice none 0 0, .int .i64 0, .slice none 0 0, .int .i64 0, .bool false, .bool false, .bool false, .bool false, .int .i64 0, .int .i64 0] 44)) w.heap.size 23 [.int .i64 k, .int .i64 rom] := Blk.alloc (Blk.newAt w 23 _ w.heap.size rfl) _
  have hS0 : Blk ((w.alloc (.cells #[.int .i64 k, .int .i64 rom] 23)).alloc (.cells #[.int .i64 0, .slice none 0 0, .slice none 0 0, .int .i64 0, .int .u8 0, .int .u8 0, .int .u8 0, .int .u8 0, .int .u16 0, .int .u16 0, .int .u16 0, .int .u16 0, .int .u16 0, .int .i64 0, .int .i64 0, .int .i64 0, .int .u8 0, .int .u8 0, .int .u8 0, .int .u8 0, .int .u16 0, .int .u16 0, .int .u16 0, .int .u16 0, .int .u16 0, .slice none 0 0, .slice none 0 0, .int .i64 0, .slice none 0 0, .int .i64 0, .bool false, .bool false, .bool false, .bool false, .int .i64 0, .int .i64 0] 44)) (w.heap.size + 1) 44 #[.int .i64 0, .slice none 0 0, .slice none 0 0, .int .i64 0, .int .u8 0, .int .u8 0, .int .u8 0, .int .u8 0, .int .u16 0, .int .u16 0, .int .u16 0, .int .u16 0, .int .u16 0, .int .i64 0, .int .i64 0, .int .i64 0, .int .u8 0, .int .u8 0, .int .u8 0, .int .u8 0, .int .u16 0, .int .u16 0, .int .u16 0, .int .u16 0, .int .u16 0, .slice none 0 0, .slice none 0 0, .int .i64 0, .slice none 0 0, .int .i64 0, .bool false, .bool false, .bool false, .bool false, .int .i64 0, .int .i64 0] := Blk.newAt (w.alloc (.cells #[.int .i64 k, .int .i64 rom] 23)) 44 _ (w.heap.size + 1) (by simp)
  go_enter Tryz.func21, Tryz.ntmps21
  go_upto_region 1 with fail
  generalize ((w.alloc (.cells #[.int .i64 k, .int .i64 rom] 23)).alloc (.cells #[.int .i64 0, .slice none 0 0, .slice none 0 0, .int .i64 0, .int .u8 0, .int .u8 0, .int .u8 0, .int .u8 0, .int .u16 0, .int .u16 0, .int .u16 0, .int .u16 0, .int .u16 0, .int .i64 0, .int .i64 0, .int .i64 0, .int .u8 0, .int .u8 0, .int .u8 0, .int .u8 0, .int .u16 0, .int .u16 0, .int .u16 0, .int .u16 0, .int .u16 0, .slice none 0 0, .slice none 0 0, .int .i64 0, .slice none 0 0, .int .i64 0, .bool false, .bool false, .bool false, .bool false, .int .i64 0, .int .i64 0] 44)) = w0 at *
  have c0 := LBlk.cell hC0 0
  have c1' := LBlk.cell hC0 1
  simp only [List.getElem?_cons_zero, List.getElem?_cons_succ] at c0 c1'
  have hlc := LBlk.lt hC0
  go_wp2_with (refine wpList_store_row rfl 44 (.tmp 4) (.tmp 11) rfl (w.heap.size + 1) #[.int .i64 k, .slice A n c, .slice none 0 0, .int .i64 rom, .int .u8 0, .int .u8 0, .int .u8 0, .int .u8 0, .int .u16 0, .int .u16 0, .int .u16 0, .int .u16 0, .int .u16 0, .int .i64 0, .int .i64 0, .int .i64 0, .int .u8 0, .int .u8 0, .int .u8 0, .int .u8 0, .int .u16 0, .int .u16 0, .int .u16 0, .int .u16 0, .int .u16 0, .slice none 0 0, .slice none 0 0, .int .i64 0, .slice none 0 0, .int .i64 0, .bool false, .bool false, .bool false, .bool false, .int .i64 0, .int .i64 0] rfl rfl 44 _ hS0 (by kernel_rfl) rfl (by kernel_rfl) ?_)
  refine bodyPost_ret (v := .agg (sZero k rom A n c).toArray) ?_ rfl ⟨rfl, below_row hb0 (by omega) _⟩
  exact (results_cell_row rfl _ _ (w.heap.size + 1) 44 (sZero k rom A n c).toArray (0, 0) _ rfl (setRow_heap w0 _ _ _ _ _ hS0) Tryz.underlying44 rfl (by kernel_rfl)).trans rfl
def imgM (lo hi : List UInt8) : Mem := updL (updL (fun _ => 0) 0 lo) (65536 - hi.length) hi
theorem img_read (lo hi : List UInt8) (a : Nat) (ha : a < 65536) : updL (fun _ => 0) 0 ((List.range 65536).map fun j => imgM lo hi (0 + j)) a = imgM lo hi a := by
  unfold updL
  simp only [List.length_map, List.length_range, Nat.zero_add, Nat.zero_le, true_and, ha, if_true, Nat.sub_zero]
  simp [List.getD, ha]
set_option maxRecDepth 100000 in
set_option maxHeartbeats 8000000 in
theorem Made_yes (k rom : Int) (lo hi : List UInt8) (A1 A2 : Option Addr) (n1 c1 n2 c2 : Nat) (w : World) (hc : confRight k rom) (hr1 : Reads w w.heap.size 1 A1 n1 (bytesV lo)) (hr2 : Reads w w.heap.size 1 A2 n2 (bytesV hi)) (h1 : n1 ≤ 65536) (h2 : n2 ≤ 65536) :
    Calls Tryz.prog 6 #[.agg #[.int .i64 k, .int .i64 rom], .agg #[.slice A1 n1 c1, .slice A2 n2 c2]] w fun e w' => (∃ h x gl mm, e = .returned (.tuple #[.pointer (some ⟨h, 0, none⟩), .pointer (some ⟨x, 0, none⟩), .bool true]) ∧ MachAt w.heap.size 0 h (Cpu.new k) mm rom w' ∧ (∀ a, a < 65536 → mm a = imgM lo hi a) ∧ MemAt gl (imgM lo hi) w' ∧ LBlk w' x 44 (sZero k rom (some ⟨gl, 0, none⟩) 65536 65536)) ∧ Below w.heap.size w w' := by
  have hb0 : Below w.heap.size w ((w.alloc (.cells #[.int .i64 k, .int .i64 rom] 23)).alloc (.cells #[.slice A1 n1 c1, .slice A2 n2 c2] 26)) := below_alloc (below_alloc (Below.refl _ _) _) _
  have hC0 : LBlk ((w.alloc (.cells #[.int .i64 k, .int .i64 rom] 23)).alloc (.cells #[.slice A1 n1 c1, .slice A2 n2 c2] 26)) w.heap.size 23 [.int .i64 k, .int .i64 rom] := Blk.alloc (Blk.newAt w 23 _ w.heap.size rfl) _
  have hW0 : LBlk ((w.alloc (.cells #[.int .i64 k, .int .i64 rom] 23)).alloc (.cells #[.slice A1 n1 c1, .slice A2 n2 c2] 26)) (w.heap.size + 1) 26 [.slice A1 n1 c1, .slice A2 n2 c2] := Blk.newAt (w.alloc (.cells #[.int .i64 k, .int .i64 rom] 23)) 26 _ (w.heap.size + 1) (by simp)
  obtain ⟨hk, hr0, hr1'⟩ := id hc
  have hln : hi.length = n2 := by simpa [bytesV] using hr2.1
  have HI := Lib.hid (Image_any lo hi A1 A2 n1 c1 n2 c2 ((w.alloc (.cells #[.int .i64 k, .int .i64 rom] 23)).alloc (.cells #[.slice A1 n1 c1, .slice A2 n2 c2] 26)) (reads_more (hr1.below hb0) hb0.size) (reads_more (hr2.below hb0) hb0.size) h1 h2)
  have HRT := Lib.hid (fun W => (decide_eq_true hc) ▸ Right34 k rom W (by omega) (by omega) (by omega) (by omega))
  have HMN := Lib.hid (fun (W : World) gl (hm : MemAt gl (imgM lo hi) W) (hB : w.heap.size ≤ W.heap.size) => machNew w.heap.size k rom hk hr0 hr1' _ (some ⟨gl, 0, none⟩) 65536 65536 W (hm.reads 0 65536 (by omega)) (by omega) hB)
  clear hr1 hr2
  go_enter Tryz.func6, Tryz.ntmps6
  go_upto_region 1 with fail
  generalize ((w.alloc (.cells #[.int .i64 k, .int .i64 rom] 23)).alloc (.cells #[.slice A1 n1 c1, .slice A2 n2 c2] 26)) = w0 at *
  have c0 := LBlk.cell hC0 0
  have c1' := LBlk.cell hC0 1
  have wa := LBlk.cell hW0 0
  have wb := LBlk.cell hW0 1
  simp only [List.getElem?_cons_zero, List.getElem?_cons_succ] at c0 c1' wa wb
  have hlc := LBlk.lt hC0
  have hlw := LBlk.lt hW0
  go_wp2_with fail
  refine HI.out.mono ?_
  rintro e w1 ⟨⟨gl, rfl, hm1, hgl⟩, hb1⟩
  have hm1' : MemAt gl (imgM lo hi) w1 := by unfold imgM; rw [hln]; exact hm1
  have hC1 := LBlk.below hC0 hb1 hlc
  have hbw1 := below_then hb0 hb1
  clear c0 c1' wa wb hlc hlw hC0 hW0 hb0 hb1 hm1 HI
  have c0 := LBlk.cell hC1 0
  have c1' := LBlk.cell hC1 1
  simp only [List.getElem?_cons_zero, List.getElem?_cons_succ] at c0 c1'
  have hlc := LBlk.lt hC1
  go_wp2_with fail
  refine (HRT.out _).mono ?_
  rintro e w2 ⟨rfl, hb2⟩
  have hm2 := hm1'.below hb2
  have hC2 := LBlk.below hC1 hb2 hlc
  have hbw2 := below_then hbw1 hb2
  clear c0 c1' hlc hC1 hm1' hb2 hbw1 HRT
  have c0 := LBlk.cell hC2 0
  have c1' := LBlk.cell hC2 1
  simp only [List.getElem?_cons_zero, List.getElem?_cons_succ] at c0 c1'
  have hlc := LBlk.lt hC2
  go_wp2_with fail
  refine (HMN.out w2 gl hm2 hbw2.size).mono ?_
  rintro e w3 ⟨⟨h, rfl, hM3⟩, hb3⟩
  have hm3 := hm2.below hb3
  have hC3 := LBlk.below hC2 hb3 hlc
  have hbw3 := below_then hbw2 hb3
  clear c0 c1' hlc hC2 hm2 hb3 hbw2 HMN
  have c0 := LBlk.cell hC3 0
  have c1' := LBlk.cell hC3 1
  simp only [List.getElem?_cons_zero, List.getElem?_cons_succ] at c0 c1'
  have hlc := LBlk.lt hC3
  have HN := Lib.hid (New34 k rom (some ⟨gl, 0, none⟩) 65536 65536 w3)
  go_wp2_with fail
  refine HN.out.mono ?_
  rintro e w4 ⟨rfl, hb4⟩
  have hM4 := hM3.below hb4
  have hm4 := hm3.below hb4
  have hbw4 := below_then hbw3 hb4
  clear c0 c1' hlc hC3 hm3 hb4 hbw3 HN hM3
  have hS4 : Blk (w4.alloc (.cells #[.int .i64 0, .slice none 0 0, .slice none 0 0, .int .i64 0, .int .u8 0, .int .u8 0, .int .u8 0, .int .u8 0, .int .u16 0, .int .u16 0, .int .u16 0, .int .u16 0, .int .u16 0, .int .i64 0, .int .i64 0, .int .i64 0, .int .u8 0, .int .u8 0, .int .u8 0, .int .u8 0, .int .u16 0, .int .u16 0, .int .u16 0, .int .u16 0, .int .u16 0, .slice none 0 0, .slice none 0 0, .int .i64 0, .slice none 0 0, .int .i64 0, .bool false, .bool false, .bool false, .bool false, .int .i64 0, .int .i64 0] 44)) w4.heap.size 44 #[.int .i64 0, .slice none 0 0, .slice none 0 0, .int .i64 0, .int .u8 0, .int .u8 0, .int .u8 0, .int .u8 0, .int .u16 0, .int .u16 0, .int .u16 0, .int .u16 0, .int .u16 0, .int .i64 0, .int .i64 0, .int .i64 0, .int .u8 0, .int .u8 0, .int .u8 0, .int .u8 0, .int .u16 0, .int .u16 0, .int .u16 0, .int .u16 0, .int .u16 0, .slice none 0 0, .slice none 0 0, .int .i64 0, .slice none 0 0, .int .i64 0, .bool false, .bool false, .bool false, .bool false, .int .i64 0, .int .i64 0] := Blk.newAt w4 44 _ w4.heap.size rfl
  have hM5 := hM4.below (below_alloc (Below.refl _ _) (.cells #[.int .i64 0, .slice none 0 0, .slice none 0 0, .int .i64 0, .int .u8 0, .int .u8 0, .int .u8 0, .int .u8 0, .int .u16 0, .int .u16 0, .int .u16 0, .int .u16 0, .int .u16 0, .int .i64 0, .int .i64 0, .int .i64 0, .int .u8 0, .int .u8 0, .int .u8 0, .int .u8 0, .int .u16 0, .int .u16 0, .int .u16 0, .int .u16 0, .int .u16 0, .slice none 0 0, .slice none 0 0, .int .i64 0, .slice none 0 0, .int .i64 0, .bool false, .bool false, .bool false, .bool false, .int .i64 0, .int .i64 0] 44))
  have hm5 := hm4.below (below_alloc (Below.refl _ _) (.cells #[.int .i64 0, .slice none 0 0, .slice none 0 0, .int .i64 0, .int .u8 0, .int .u8 0, .int .u8 0, .int .u8 0, .int .u16 0, .int .u16 0, .int .u16 0, .int .u16 0, .int .u16 0, .int .i64 0, .int .i64 0, .int .i64 0, .int .u8 0, .int .u8 0, .int .u8 0, .int .u8 0, .int .u16 0, .int .u16 0, .int .u16 0, .int .u16 0, .int .u16 0, .slice none 0 0, .slice none 0 0, .int .i64 0, .slice none 0 0, .int .i64 0, .bool false, .bool false, .bool false, .bool false, .int .i64 0, .int .i64 0] 44))
  have hbw5 := hbw4.alloc hbw4.size (.cells #[.int .i64 0, .slice none 0 0, .slice none 0 0, .int .i64 0, .int .u8 0, .int .u8 0, .int .u8 0, .int .u8 0, .int .u16 0, .int .u16 0, .int .u16 0, .int .u16 0, .int .u16 0, .int .i64 0, .int .i64 0, .int .i64 0, .int .u8 0, .int .u8 0, .int .u8 0, .int .u8 0, .int .u16 0, .int .u16 0, .int .u16 0, .int .u16 0, .int .u16 0, .slice none 0 0, .slice none 0 0, .int .i64 0, .slice none 0 0, .int .i64 0, .bool false, .bool false, .bool false, .bool false, .int .i64 0, .int .i64 0] 44)
  have hs4 := hbw4.size
  have hgm := hm4.lt
  clear hM4 hm4 hbw4
  go_wp2_with (refine wpList_store_row rfl 44 (.tmp 11) (.tmp 32) rfl w4.heap.size #[.int .i64 k, .slice (some ⟨gl, 0, none⟩) 65536 65536, .slice none 0 0, .int .i64 rom, .int .u8 0, .int .u8 0, .int .u8 0, .int .u8 0, .int .u16 0, .int .u16 0, .int .u16 0, .int .u16 0, .int .u16 0, .int .i64 0, .int .i64 0, .int .i64 0, .int .u8 0, .int .u8 0, .int .u8 0, .int .u8 0, .int .u16 0, .int .u16 0, .int .u16 0, .int .u16 0, .int .u16 0, .slice none 0 0, .slice none 0 0, .int .i64 0, .slice none 0 0, .int .i64 0, .bool false, .bool false, .bool false, .bool false, .int .i64 0, .int .i64 0] rfl rfl 44 _ hS4 (by kernel_rfl) rfl (by kernel_rfl) ?_)
  have hg6 := grown_row _ (World.grownBy.refl (w4.alloc (.cells #[.int .i64 0, .slice none 0 0, .slice none 0 0, .int .i64 0, .int .u8 0, .int .u8 0, .int .u8 0, .int .u8 0, .int .u16 0, .int .u16 0, .int .u16 0, .int .u16 0, .int .u16 0, .int .i64 0, .int .i64 0, .int .i64 0, .int .u8 0, .int .u8 0, .int .u8 0, .int .u8 0, .int .u16 0, .int .u16 0, .int .u16 0, .int .u16 0, .int .u16 0, .slice none 0 0, .slice none 0 0, .int .i64 0, .slice none 0 0, .int .i64 0, .bool false, .bool false, .bool false, .bool false, .int .i64 0, .int .i64 0] 44)) (some w4.heap.size)) #[.int .i64 k, .slice (some ⟨gl, 0, none⟩) 65536 65536, .slice none 0 0, .int .i64 rom, .int .u8 0, .int .u8 0, .int .u8 0, .int .u8 0, .int .u16 0, .int .u16 0, .int .u16 0, .int .u16 0, .int .u16 0, .int .i64 0, .int .i64 0, .int .i64 0, .int .u8 0, .int .u8 0, .int .u8 0, .int .u8 0, .int .u16 0, .int .u16 0, .int .u16 0, .int .u16 0, .int .u16 0, .slice none 0 0, .slice none 0 0, .int .i64 0, .slice none 0 0, .int .i64 0, .bool false, .bool false, .bool false, .bool false, .int .i64 0, .int .i64 0]
  have hbw6 := below_row hbw5 hs4 #[.int .i64 k, .slice (some ⟨gl, 0, none⟩) 65536 65536, .slice none 0 0, .int .i64 rom, .int .u8 0, .int .u8 0, .int .u8 0, .int .u8 0, .int .u16 0, .int .u16 0, .int .u16 0, .int .u16 0, .int .u16 0, .int .i64 0, .int .i64 0, .int .i64 0, .int .u8 0, .int .u8 0, .int .u8 0, .int .u8 0, .int .u16 0, .int .u16 0, .int .u16 0, .int .u16 0, .int .u16 0, .slice none 0 0, .slice none 0 0, .int .i64 0, .slice none 0 0, .int .i64 0, .bool false, .bool false, .bool false, .bool false, .int .i64 0, .int .i64 0]
  have hS6 : Blk ((w4.alloc (.cells #[.int .i64 0, .slice none 0 0, .slice none 0 0, .int .i64 0, .int .u8 0, .int .u8 0, .int .u8 0, .int .u8 0, .int .u16 0, .int .u16 0, .int .u16 0, .int .u16 0, .int .u16 0, .int .i64 0, .int .i64 0, .int .i64 0, .int .u8 0, .int .u8 0, .int .u8 0, .int .u8 0, .int .u16 0, .int .u16 0, .int .u16 0, .int .u16 0, .int .u16 0, .slice none 0 0, .slice none 0 0, .int .i64 0, .slice none 0 0, .int .i64 0, .bool false, .bool false, .bool false, .bool false, .int .i64 0, .int .i64 0] 44)).setRow w4.heap.size #[.int .i64 k, .slice (some ⟨gl, 0, none⟩) 65536 65536, .slice none 0 0, .int .i64 rom, .int .u8 0, .int .u8 0, .int .u8 0, .int .u8 0, .int .u16 0, .int .u16 0, .int .u16 0, .int .u16 0, .int .u16 0, .int .i64 0, .int .i64 0, .int .i64 0, .int .u8 0, .int .u8 0, .int .u8 0, .int .u8 0, .int .u16 0, .int .u16 0, .int .u16 0, .int .u16 0, .int .u16 0, .slice none 0 0, .slice none 0 0, .int .i64 0, .slice none 0 0, .int .i64 0, .bool false, .bool false, .bool false, .bool false, .int .i64 0, .int .i64 0]) w4.heap.size 44 #[.int .i64 k, .slice (some ⟨gl, 0, none⟩) 65536 65536, .slice none 0 0, .int .i64 rom, .int .u8 0, .int .u8 0, .int .u8 0, .int .u8 0, .int .u16 0, .int .u16 0, .int .u16 0, .int .u16 0, .int .u16 0, .int .i64 0, .int .i64 0, .int .i64 0, .int .u8 0, .int .u8 0, .int .u8 0, .int .u8 0, .int .u16 0, .int .u16 0, .int .u16 0, .int .u16 0, .int .u16 0, .slice none 0 0, .slice none 0 0, .int .i64 0, .slice none 0 0, .int .i64 0, .bool false, .bool false, .bool false, .bool false, .int .i64 0, .int .i64 0] := setRow_heap _ _ _ _ _ _ hS4
  have hm6 := hm5.same (hg6.block gl hm5.lt (fun e => by injection e with e; have := hgm; omega))
  obtain ⟨g, gr, hl5, hY5⟩ := hM5
  have hl6 := LBlk.grown hl5 hg6 (fun e => Blk.ne_ hl5 hS4 (by decide) (by injection e))
  have hY6 := hY5.other hS4 (by decide) (by decide) (by decide) (by decide) (by decide) hg6
  have HRM := Lib.hid (mach_Ram _ hl6)
  have HS6 := Lib.hid hS6
  have HM6 := Lib.hid hm6
  have HL6 := Lib.hid hl6
  have HY6 := Lib.hid hY6
  have HB6 := Lib.hid hbw6
  clear hg6 hbw6 hS6 hm6 hl5 hY5 hl6 hY6 hS4 hm5 hbw5
  generalize ((w4.alloc (.cells #[.int .i64 0, .slice none 0 0, .slice none 0 0, .int .i64 0, .int .u8 0, .int .u8 0, .int .u8 0, .int .u8 0, .int .u16 0, .int .u16 0, .int .u16 0, .int .u16 0, .int .u16 0, .int .i64 0, .int .i64 0, .int .i64 0, .int .u8 0, .int .u8 0, .int .u8 0, .int .u8 0, .int .u16 0, .int .u16 0, .int .u16 0, .int .u16 0, .int .u16 0, .slice none 0 0, .slice none 0 0, .int .i64 0, .slice none 0 0, .int .i64 0, .bool false, .bool false, .bool false, .bool false, .int .i64 0, .int .i64 0] 44)).setRow w4.heap.size #[.int .i64 k, .slice (some ⟨gl, 0, none⟩) 65536 65536, .slice none 0 0, .int .i64 rom, .int .u8 0, .int .u8 0, .int .u8 0, .int .u8 0, .int .u16 0, .int .u16 0, .int .u16 0, .int .u16 0, .int .u16 0, .int .i64 0, .int .i64 0, .int .i64 0, .int .u8 0, .int .u8 0, .int .u8 0, .int .u8 0, .int .u16 0, .int .u16 0, .int .u16 0, .int .u16 0, .int .u16 0, .slice none 0 0, .slice none 0 0, .int .i64 0, .slice none 0 0, .int .i64 0, .bool false, .bool false, .bool false, .bool false, .int .i64 0, .int .i64 0]) = w6 at *
  refine HRM.out.mono ?_
  rintro e w7 ⟨rfl, rfl⟩
  go_wp2
  go_ret3
  exact ⟨⟨h, w4.heap.size, gl, _, rfl, ⟨g, gr, HL6.out, HY6.out⟩, fun a ha => img_read lo hi a ha, HM6.out, HS6.out⟩, HB6.out⟩
end Go.Proofs.YtkdaphkpllgmbaaGreat

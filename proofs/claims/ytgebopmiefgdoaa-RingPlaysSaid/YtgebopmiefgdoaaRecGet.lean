/-
  Contract of record.Get: bytes as records, or why they are none.
-/
import Derived.Test.YtgebopmiefgdoaaRec
import Derived.Test.YtgebopmiefgdoaaOctRows
namespace Go.Proofs.Ytgebopmiefgdoaa
open Go.RowKit
theorem info_rec : (Try.prog.info? 64).map (fun i => (i.zero, i.size, i.bytes)) = some (some (.agg #[.int .u16 0, .int .u8 0, .bool false, .bool false, .bool false, .bool false, .bool false, .bool false, .bool false]), 9, 10) := by kernel_rfl
/-- Level k of a byte of levels. -/
def lvl (f : UInt8) (k : Nat) : Bool := f.toNat / 2 ^ k % 2 == 1
def recOf (h l d f : UInt8) : Rec := ⟨256 * (h.toNat : Int) + (l.toNat : Int), (d.toNat : Int), lvl f 0, lvl f 1, lvl f 2, lvl f 3, lvl f 4, lvl f 5, lvl f 6⟩
def getL (l : List UInt8) (k : Nat) : List Rec := (List.range k).map fun j => recOf (l.getD (4 * j) 0) (l.getD (4 * j + 1) 0) (l.getD (4 * j + 2) 0) (l.getD (4 * j + 3) 0)
def recsV (l : List Rec) : List Value := l.flatMap Rec.cells
def badL (l : List UInt8) : Prop := ∃ k c, l[4 * k + 3]? = some c ∧ 127 < c.toNat
def GetPost (l : List UInt8) (w : World) (e : Ending) (w' : World) : Prop :=
  Below w.heap.size w w' ∧
  ((l.length % 4 ≠ 0 ∧ e = .returned (.tuple #[.slice none 0 0, .int .i64 12])) ∨
   (l.length % 4 = 0 ∧ badL l ∧ e = .returned (.tuple #[.slice none 0 0, .int .i64 21])) ∨
   (l.length % 4 = 0 ∧ (¬ badL l) ∧ ∃ v, e = .returned (.tuple #[v, .int .i64 0]) ∧ w'.ownsRow w.heap.size 64 9 v (l.length / 4) (recsV (getL l (l.length / 4)))))
theorem i64_in2 (n : Int) (h0 : -9223372036854775808 ≤ n) (h1 : n < 9223372036854775808) : IntKind.i64.wrap n = n := by
  simp [IntKind.wrap, IntKind.bits, IntKind.signed]; omega
theorem lvl_bit (f : UInt8) (m : Nat) (P : Int) (hP : P = ((2 ^ m : Nat) : Int)) : (bits .and .u8 ((f.toNat : Int) / P) 1 == 1) = lvl f m := by
  have h8 := f.toNat_lt
  have e : ((f.toNat : Int) / P) = ((f.toNat / 2 ^ m : Nat) : Int) := by rw [hP]; exact (Int.natCast_ediv _ _).symm
  have hle : f.toNat / 2 ^ m ≤ f.toNat := Nat.div_le_self _ _
  rw [e]
  unfold lvl
  generalize f.toNat / 2 ^ m = q at *
  have hand : bits .and .u8 (q : Int) 1 = (q : Int) % 2 := bits_mask .u8 8 (by decide) wraps_u8 1 (by decide) _ (by omega) (by omega)
  rw [hand]
  rcases Nat.mod_two_eq_zero_or_one q with h | h
  · rw [h]
    rw [show ((q : Int) % 2) = 0 by omega]
    rfl
  · rw [h]
    rw [show ((q : Int) % 2) = 1 by omega]
    rfl
theorem lvl_bit0 (f : UInt8) : (bits .and .u8 (f.toNat : Int) 1 == 1) = lvl f 0 := by
  have h := lvl_bit f 0 1 rfl
  rwa [Int.ediv_one] at h
theorem Reads.newS (w : World) (t : TypeId) (cs : Array Value) (n size B : Nat) (hn : cs.size = n * size) (hB : w.heap.size < B) : Reads (w.alloc (.cells cs t)) B size (some ⟨w.heap.size, 0, none⟩) n cs.toList := by
  refine ⟨by simp [hn], fun _ => ⟨_, rfl, hB, fun j u hu => ?_⟩⟩
  rw [addr_add0, cell_of_row (w.alloc (.cells cs t)) w.heap.size j cs t (0, 0) (heap_alloc_new w _)]
  simpa using hu
theorem recsV_append (l m : List Rec) : recsV (l ++ m) = recsV l ++ recsV m := by simp [recsV]
theorem getL_succ (l : List UInt8) (k : Nat) (x0 x1 x2 x3 : UInt8) (h0 : l[4 * k]? = some x0) (h1 : l[4 * k + 1]? = some x1) (h2 : l[4 * k + 2]? = some x2) (h3 : l[4 * k + 3]? = some x3) : getL l (k + 1) = getL l k ++ [recOf x0 x1 x2 x3] := by
  simp [getL, List.range_succ, List.getD_eq_getElem?_getD, h0, h1, h2, h3]
theorem rec_one (r : Rec) : ∀ u ∈ r.cells, u.oneCell' = true := by
  intro u hu
  simp [Rec.cells] at hu
  rcases hu with rfl | rfl | rfl | rfl | rfl | rfl | rfl | rfl | rfl <;> rfl
set_option maxRecDepth 100000 in
set_option maxHeartbeats 4000000 in
theorem Get_any (l : List UInt8) (A : Option Addr) (n c B : Nat) (w : World) (hB : B ≤ w.heap.size) (hr : Reads w B 1 A n (bytesV l)) (hn : n ≤ 1048576) :
    Calls Try.prog 80 #[.slice A n c] w (GetPost l w) := by
  obtain ⟨i0, hi, hz0, hz1, hz2⟩ := info_parts info_rec
  have hln : l.length = n := by simpa [bytesV] using hr.1
  have HLN := Lib.hid hln
  clear hln
  by_cases h4 : n % 4 = 0
  · obtain ⟨N, rfl⟩ : ∃ N, n = 4 * N := ⟨n / 4, by omega⟩
    have ht : Int.tmod (4 * (N : Int)) 4 = 0 := by rw [Int.tmod_eq_emod_of_nonneg (by omega)]; omega
    go_enter Try.func80, Try.ntmps80
    go_wp2
    go_loopw [4, 5] (fun v i wr => ∃ k M : Nat, M = 4 * k ∧ k ≤ N ∧ i = .int .i64 M ∧ wr.ownsRow w.heap.size 64 9 v k (recsV (getL l k)) ∧ (∀ j, j < k → ∀ c, l[4 * j + 3]? = some c → c.toNat ≤ 127) ∧ Below w.heap.size w wr) (fun _ i _ => 4 * N - (intOf i).toNat)
    case atStart => exact ⟨0, 0, rfl, by omega, rfl, own_nil _ _ _ _, fun j h => absurd h (by omega), Below.refl _ _⟩
    case round =>
      obtain ⟨k, M, hM, hk, rfl, hown, hgood, hbl⟩ := hrel
      by_cases hlt : k < N
      · obtain ⟨ad, u0, rfl, hab, hu0, hc0⟩ := hr.at_ (k := M) (by omega)
        obtain ⟨ad1, u1, e1, _, hu1, hc1⟩ := hr.at_ (k := M + 1) (by omega)
        obtain ⟨ad2, u2, e2, _, hu2, hc2⟩ := hr.at_ (k := M + 2) (by omega)
        obtain ⟨ad3, u3, e3, _, hu3, hc3⟩ := hr.at_ (k := M + 3) (by omega)
        cases e1
        cases e2
        cases e3
        obtain ⟨x0, hx0, rfl⟩ := bytesV_get l _ u0 hu0
        obtain ⟨x1, hx1, rfl⟩ := bytesV_get l _ u1 hu1
        obtain ⟨x2, hx2, rfl⟩ := bytesV_get l _ u2 hu2
        obtain ⟨x3, hx3, rfl⟩ := bytesV_get l _ u3 hu3
        replace hc0 := (hbl.cell (p := ad.add M) (by rw [block_of_add]; omega)).trans hc0
        replace hc1 := (hbl.cell (p := ad.add (M + 1)) (by rw [block_of_add]; omega)).trans hc1
        replace hc2 := (hbl.cell (p := ad.add (M + 2)) (by rw [block_of_add]; omega)).trans hc2
        replace hc3 := (hbl.cell (p := ad.add (M + 3)) (by rw [block_of_add]; omega)).trans hc3
        rw [add_pos _ _ (by omega)] at hc1 hc2 hc3
        clear hu0 hu1 hu2 hu3
        have l0 := x0.toNat_lt
        have l1 := x1.toNat_lt
        have l2 := x2.toNat_lt
        have l3 := x3.toNat_lt
        have b0 : (M : Int) < 4 * (N : Int) := by omega
        have b1 : (M : Int) + 1 < 4 * (N : Int) := by omega
        have b2 : (M : Int) + 2 < 4 * (N : Int) := by omega
        have b3 : (M : Int) + 3 < 4 * (N : Int) := by omega
        have bz : (0 : Int) ≤ (M : Int) := by omega
        have HM := Lib.hid hM
        clear hM
        by_cases h127 : 127 < x3.toNat
        · have HBAD : Hid (badL l) := ⟨k, x3, by rw [← HM.out]; exact hx3, h127⟩
          go_wp2
          go_ret2
          exact ⟨hbl, .inr (.inl ⟨by rw [HLN.out]; exact h4, HBAD.out, rfl⟩)⟩
        · have h3 : x3.toNat ≤ 127 := by omega
          have HG : Hid (∀ j, j < k + 1 → ∀ c, l[4 * j + 3]? = some c → c.toNat ≤ 127) := fun j hj c hc => by
            rcases Nat.lt_or_eq_of_le (Nat.le_of_lt_succ hj) with h | rfl
            · exact hgood j h c hc
            · rw [← HM.out, hx3] at hc; injection hc with hc; subst hc; exact h3
          have HS := Lib.hid (getL_succ l k x0 x1 x2 x3 (by rw [← HM.out]; exact hx0) (by rw [← HM.out]; exact hx1) (by rw [← HM.out]; exact hx2) (by rw [← HM.out]; exact hx3))
          clear hgood hx0 hx1 hx2 hx3
          obtain ⟨w5, rfl⟩ : ∃ w5 : World, w5 = wr := ⟨_, rfl⟩
          have hbs := hbl.size
          have hneg : some w5.heap.size ≠ u4.ownBlock := fun e => by have := (hown.lt _ e.symm).2; omega
          have hnea : some ad.block ≠ u4.ownBlock := fun e => by have := (hown.lt _ e.symm).1; omega
          go_wp2
          go_loopw [24] (fun i w7 => ∃ m : Nat, m ≤ 7 ∧ i = .int .i64 m ∧ Blk w7 w5.heap.size 155 #[.bool (decide (0 < m) && lvl x3 0), .bool (decide (1 < m) && lvl x3 1), .bool (decide (2 < m) && lvl x3 2), .bool (decide (3 < m) && lvl x3 3), .bool (decide (4 < m) && lvl x3 4), .bool (decide (5 < m) && lvl x3 5), .bool (decide (6 < m) && lvl x3 6)] ∧ Below w5.heap.size w5 w7) (fun i _ => 7 - (intOf i).toNat)
          case atStart => exact ⟨0, by omega, rfl, Blk.new w5 _ _, below_alloc (Below.refl _ _) _⟩
          case round =>
            obtain ⟨m, hm, rfl, hb7, hbl7⟩ := hrel
            have hc3' := (hbl7.cell (p := ⟨ad.block, ad.off + (M + 3), none⟩) (by dsimp only; omega)).trans hc3
            by_cases h7 : m < 7
            · have seven : m = 0 ∨ m = 1 ∨ m = 2 ∨ m = 3 ∨ m = 4 ∨ m = 5 ∨ m = 6 := by omega
              have HL0 := Lib.hid (lvl_bit0 x3)
              have HL := Lib.hid (lvl_bit x3)
              rcases seven with rfl | rfl | rfl | rfl | rfl | rfl | rfl
              · have hcm := hb7.cell 0
                have hfm := hb7.frozen 0
                have hlv := HL0.out
                go_wp2
                go_roundw
                case rel => exact ⟨1, by omega, rfl, hb7.set_ 0 _, hbl7.setCell (Nat.le_refl _) _⟩
                case measure => simp [intOf]
              · have hcm := hb7.cell 1
                have hfm := hb7.frozen 1
                have hlv := HL.out 1 2 rfl
                go_wp2
                go_roundw
                case rel => exact ⟨2, by omega, rfl, hb7.set_ 1 _, hbl7.setCell (Nat.le_refl _) _⟩
                case measure => simp [intOf]
              · have hcm := hb7.cell 2
                have hfm := hb7.frozen 2
                have hlv := HL.out 2 4 rfl
                go_wp2
                go_roundw
                case rel => exact ⟨3, by omega, rfl, hb7.set_ 2 _, hbl7.setCell (Nat.le_refl _) _⟩
                case measure => simp [intOf]
              · have hcm := hb7.cell 3
                have hfm := hb7.frozen 3
                have hlv := HL.out 3 8 rfl
                go_wp2
                go_roundw
                case rel => exact ⟨4, by omega, rfl, hb7.set_ 3 _, hbl7.setCell (Nat.le_refl _) _⟩
                case measure => simp [intOf]
              · have hcm := hb7.cell 4
                have hfm := hb7.frozen 4
                have hlv := HL.out 4 16 rfl
                go_wp2
                go_roundw
                case rel => exact ⟨5, by omega, rfl, hb7.set_ 4 _, hbl7.setCell (Nat.le_refl _) _⟩
                case measure => simp [intOf]
              · have hcm := hb7.cell 5
                have hfm := hb7.frozen 5
                have hlv := HL.out 5 32 rfl
                go_wp2
                go_roundw
                case rel => exact ⟨6, by omega, rfl, hb7.set_ 5 _, hbl7.setCell (Nat.le_refl _) _⟩
                case measure => simp [intOf]
              · have hcm := hb7.cell 6
                have hfm := hb7.frozen 6
                have hlv := HL.out 6 64 rfl
                go_wp2
                go_roundw
                case rel => exact ⟨7, by omega, rfl, hb7.set_ 6 _, hbl7.setCell (Nat.le_refl _) _⟩
                case measure => simp [intOf]
            · obtain rfl : m = 7 := by omega
              replace hb7 : Blk wr w5.heap.size 155 #[.bool (lvl x3 0), .bool (lvl x3 1), .bool (lvl x3 2), .bool (lvl x3 3), .bool (lvl x3 4), .bool (lvl x3 5), .bool (lvl x3 6)] := hb7
              have HR : Hid (Rec.cells (recOf x0 x1 x2 x3) = [.int .u16 (256 * (x0.toNat : Int) + (x1.toNat : Int)), .int .u8 (x2.toNat : Int), .bool (lvl x3 0), .bool (lvl x3 1), .bool (lvl x3 2), .bool (lvl x3 3), .bool (lvl x3 4), .bool (lvl x3 5), .bool (lvl x3 6)]) := rfl
              have hone := rec_one (recOf x0 x1 x2 x3)
              rw [HR.out] at hone
              generalize lvl x3 0 = q0 at *
              generalize lvl x3 1 = q1 at *
              generalize lvl x3 2 = q2 at *
              generalize lvl x3 3 = q3 at *
              generalize lvl x3 4 = q4 at *
              generalize lvl x3 5 = q5 at *
              generalize lvl x3 6 = q6 at *
              have hc0' := (hbl7.cell (p := ad.add M) (by rw [block_of_add]; omega)).trans hc0
              have hc1' := (hbl7.cell (p := ⟨ad.block, ad.off + (M + 1), none⟩) (by dsimp only; omega)).trans hc1
              have hc2' := (hbl7.cell (p := ⟨ad.block, ad.off + (M + 2), none⟩) (by dsimp only; omega)).trans hc2
              have hown7 := own_below hown hbl7
              have hbl' := below_then hbl hbl7
              have hs7 := hbl7.size
              have hw1 : IntKind.i64.wrap ((M : Int) + 1) = (M : Int) + 1 := i64_in2 _ (by omega) (by omega)
              have hw2 : IntKind.i64.wrap ((M : Int) + 2) = (M : Int) + 2 := i64_in2 _ (by omega) (by omega)
              have HW : Hid (∀ W : World, Calls Try.prog 23 #[.int .u8 (x0.toNat : Int), .int .u8 (x1.toNat : Int)] W fun e w' => e = .returned (.int .u16 (256 * (x0.toNat : Int) + (x1.toNat : Int))) ∧ W = w') := fun W => Word_any _ _ _ (by omega) (by omega) (by omega) (by omega)
              clear hc0 hc1 hc2 hc3 hc3' hown hbl hbl7
              have d0 := hb7.cell 0
              have d1 := hb7.cell 1
              have d2 := hb7.cell 2
              have d3 := hb7.cell 3
              have d4 := hb7.cell 4
              have d5 := hb7.cell 5
              have d6 := hb7.cell 6
              simp only [List.getElem?_toArray, List.getElem?_cons_zero, List.getElem?_cons_succ] at d0 d1 d2 d3 d4 d5 d6
              have bz1 : (0 : Int) ≤ (M : Int) + 1 := by omega
              have bz2 : (0 : Int) ≤ (M : Int) + 2 := by omega
              have ht1 : ((M : Int) + 1).toNat = M + 1 := by omega
              have ht2 : ((M : Int) + 2).toNat = M + 2 := by omega
              have hadlt : ad.block < wr.heap.size := by omega
              have hglt : w5.heap.size < wr.heap.size := hb7.lt
              have hadltd : ad.block < wr.drew.heap.size := by simpa using hadlt
              have hgltd : w5.heap.size < wr.drew.heap.size := by simpa using hglt
              clear hb7
              go_wp2
              go_region_held3 (fun w' => w'.cell? (ad.add M) = some (.int .u8 (x0.toNat : Int)) ∧ w'.cell? (⟨ad.block, ad.off + (M + 1), none⟩) = some (.int .u8 (x1.toNat : Int)) ∧ w'.cell? (⟨ad.block, ad.off + (M + 2), none⟩) = some (.int .u8 (x2.toNat : Int)) ∧ w'.cell? (⟨w5.heap.size, 0, none⟩) = some (.bool q0) ∧ w'.cell? (⟨w5.heap.size, 1, none⟩) = some (.bool q1) ∧ w'.cell? (⟨w5.heap.size, 2, none⟩) = some (.bool q2) ∧ w'.cell? (⟨w5.heap.size, 3, none⟩) = some (.bool q3) ∧ w'.cell? (⟨w5.heap.size, 4, none⟩) = some (.bool q4) ∧ w'.cell? (⟨w5.heap.size, 5, none⟩) = some (.bool q5) ∧ w'.cell? (⟨w5.heap.size, 6, none⟩) = some (.bool q6)) (first | (go_keep; done)) (first | (go_at_call 23; with_reducible refine (HW.out _).mono ?_; rintro e w' ⟨rfl, rfl⟩) | (go_at_call 113; with_reducible refine (with_any _ _ _ _ _ _ _ _ _ _ _ _ _ _ _ _ _).mono ?_; rintro e w3 ⟨rfl, hb3⟩; have z3 := hb3.size; have r0 := hb3.cell (p := ad.add M) (by rw [block_of_add]; exact hadltd); have r1 := hb3.cell (p := ⟨ad.block, ad.off + (M + 1), none⟩) hadltd; have r2 := hb3.cell (p := ⟨ad.block, ad.off + (M + 2), none⟩) hadltd; have r3 := hb3.cell (p := ⟨w5.heap.size, 0, none⟩) hgltd; have r4 := hb3.cell (p := ⟨w5.heap.size, 1, none⟩) hgltd; have r5 := hb3.cell (p := ⟨w5.heap.size, 2, none⟩) hgltd; have r6 := hb3.cell (p := ⟨w5.heap.size, 3, none⟩) hgltd; have r7 := hb3.cell (p := ⟨w5.heap.size, 4, none⟩) hgltd; have r8 := hb3.cell (p := ⟨w5.heap.size, 5, none⟩) hgltd; have r9 := hb3.cell (p := ⟨w5.heap.size, 6, none⟩) hgltd; have hA3 := Nat.lt_of_lt_of_le hadltd z3; have hG3 := Nat.lt_of_lt_of_le hgltd z3; have hn1 : ad.block ≠ w3.heap.size := (by simp at z3; omega); have hn2 : w5.heap.size ≠ w3.heap.size := (by simp at z3; omega)) | (refine step_append_any _ rfl (.tmp 39) (.tmp 58) 57 rfl w.heap.size 64 i0 (.agg #[.int .u16 0, .int .u8 0, .bool false, .bool false, .bool false, .bool false, .bool false, .bool false, .bool false]) 9 10 Try.underlying57 hi hz0 hz1 hz2 rfl (by omega) u4 k (recsV (getL l k)) rfl ((own_below (w := wr.drew) hown7 hb3).alloc _) (w3.heap.size + 1) (some ⟨w3.heap.size, 0, none⟩) 1 1 [.int .u16 (256 * (x0.toNat : Int) + (x1.toNat : Int)), .int .u8 (x2.toNat : Int), .bool q0, .bool q1, .bool q2, .bool q3, .bool q4, .bool q5, .bool q6] rfl (Reads.newS w3 _ _ 1 9 _ rfl (Nat.lt_succ_self _)) hone (by simp only [maxLen]; omega) (by omega) (by simp at *; omega) ?_; intro v1 w1 hown1 hg1 hat1; have z4 := hg1.size; have s0 := World.cell?_of_block (a := ad.add M) (hg1.block _ (by rw [block_of_add]; exact Nat.lt_of_lt_of_le hA3 (by simp)) (by rw [block_of_add]; exact hnea)); have s1 := World.cell?_of_block (a := ⟨ad.block, ad.off + (M + 1), none⟩) (hg1.block _ (Nat.lt_of_lt_of_le hA3 (by simp)) hnea); have s2 := World.cell?_of_block (a := ⟨ad.block, ad.off + (M + 2), none⟩) (hg1.block _ (Nat.lt_of_lt_of_le hA3 (by simp)) hnea); have s3 := World.cell?_of_block (a := ⟨w5.heap.size, 0, none⟩) (hg1.block _ (Nat.lt_of_lt_of_le hG3 (by simp)) hneg); have s4 := World.cell?_of_block (a := ⟨w5.heap.size, 1, none⟩) (hg1.block _ (Nat.lt_of_lt_of_le hG3 (by simp)) hneg); have s5 := World.cell?_of_block (a := ⟨w5.heap.size, 2, none⟩) (hg1.block _ (Nat.lt_of_lt_of_le hG3 (by simp)) hneg); have s6 := World.cell?_of_block (a := ⟨w5.heap.size, 3, none⟩) (hg1.block _ (Nat.lt_of_lt_of_le hG3 (by simp)) hneg); have s7 := World.cell?_of_block (a := ⟨w5.heap.size, 4, none⟩) (hg1.block _ (Nat.lt_of_lt_of_le hG3 (by simp)) hneg); have s8 := World.cell?_of_block (a := ⟨w5.heap.size, 5, none⟩) (hg1.block _ (Nat.lt_of_lt_of_le hG3 (by simp)) hneg); have s9 := World.cell?_of_block (a := ⟨w5.heap.size, 6, none⟩) (hg1.block _ (Nat.lt_of_lt_of_le hG3 (by simp)) hneg)))
              clear r0 r1 r2 r3 r4 r5 r6 r7 r8 r9 s0 s1 s2 s3 s4 s5 s6 s7 s8 s9 d0 d1 d2 d3 d4 d5 d6 hc0' hc1' hc2' HW
              have hbe : Below w.heap.size w w1 := below_own (w := w3.alloc _) (below_alloc' (below_then (w1 := wr.drew) (below_drewN hbl' 1) hb3)) ((own_below (w := wr.drew) hown7 hb3).alloc _) hg1 (by have := hbl'.size; have := hb3.size; simp at *; omega)
              have hmm := HM.out
              go_wp2
              go_roundw
              case rel => exact ⟨k + 1, M + 4, by omega, by omega, by go_num, by rw [HS.out, recsV_append, show recsV [recOf x0 x1 x2 x3] = (recOf x0 x1 x2 x3).cells from by simp [recsV], HR.out]; exact hown1, HG.out, hbe⟩
              case measure => simp [intOf]; omega
      · obtain rfl : k = N := by omega
        have HNB : Hid (¬ badL l) := by
          rintro ⟨j, c, hc, h127⟩
          obtain ⟨hj, _⟩ := List.getElem?_eq_some_iff.1 hc
          have hl := HLN.out
          have := hgood j (by omega) c hc
          omega
        have HQ : Hid (l.length / 4 = k) := by have hl := HLN.out; show l.length / 4 = k; omega
        clear hgood
        subst hM
        go_wp2
        go_ret2
        exact ⟨hbl, .inr (.inr ⟨by rw [HLN.out]; exact h4, HNB.out, _, rfl, by rw [HQ.out]; exact hown⟩)⟩
  · have ht : ((Int.tmod (n : Int) 4) == 0) = false := by
      rw [Int.tmod_eq_emod_of_nonneg (by omega), beq_eq_false_iff_ne]; omega
    go_enter Try.func80, Try.ntmps80
    go_wp2
    go_ret2
    exact ⟨Below.refl _ _, .inl ⟨by rw [HLN.out]; exact h4, rfl⟩⟩
end Go.Proofs.Ytgebopmiefgdoaa

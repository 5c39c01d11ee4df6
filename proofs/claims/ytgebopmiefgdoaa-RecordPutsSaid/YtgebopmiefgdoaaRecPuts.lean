/-
  Contract of record.Put.
-/
import Derived.Test.YtgebopmiefgdoaaRecLines
import Derived.Deep.RegionHeld3
namespace Go.Proofs.Ytgebopmiefgdoaa
open Go.RowKit
theorem lvlN_ltk : ∀ (k : Fin 8) (b0 b1 b2 b3 b4 b5 b6 : Bool), lvlN (decide (0 < k.val) && b0) (decide (1 < k.val) && b1) (decide (2 < k.val) && b2) (decide (3 < k.val) && b3) (decide (4 < k.val) && b4) (decide (5 < k.val) && b5) (decide (6 < k.val) && b6) < 2 ^ k.val := by decide +kernel
theorem or_bit : ∀ (k : Fin 7) (q : Fin 128), q.val < 2 ^ k.val → bits .or .u8 (q.val : Int) ((2 ^ k.val : Nat) : Int) = ((q.val + 2 ^ k.val : Nat) : Int) := by decide +kernel
theorem or_bitN (k q : Nat) (hk : k < 7) (hq : q < 2 ^ k) : bits .or .u8 (q : Int) ((2 ^ k : Nat) : Int) = ((q + 2 ^ k : Nat) : Int) := by
  have h : q < 128 := Nat.lt_of_lt_of_le hq (Nat.pow_le_pow_right (by omega) (by omega : k ≤ 7))
  exact or_bit ⟨k, hk⟩ ⟨q, h⟩ hq
def putsL (l : List Rec) : List UInt8 := l.flatMap Rec.bytes
theorem putsL_len (l : List Rec) : (putsL l).length = 4 * l.length := by
  induction l with
  | nil => rfl
  | cons r l ih =>
    have : r.bytes.length = 4 := rfl
    simp only [putsL, List.flatMap_cons, List.length_append, List.length_cons] at ih ⊢
    omega
theorem putsL_take (l : List Rec) (k : Nat) (r : Rec) (h : l[k]? = some r) : putsL (l.take (k + 1)) = putsL (l.take k) ++ r.bytes := by
  obtain ⟨hk, rfl⟩ := List.getElem?_eq_some_iff.1 h
  rw [List.take_succ_eq_append_getElem hk]
  simp only [putsL, List.flatMap_append, List.flatMap_cons, List.flatMap_nil, List.append_nil]
set_option maxRecDepth 100000 in
set_option maxHeartbeats 4000000 in
theorem RPut_any (ys : List Rec) (A : Option Addr) (n c B : Nat) (w : World) (hB : B ≤ w.heap.size) (hr : Reads w B 9 A n (recsV ys)) (hg : ∀ y ∈ ys, y.Good) (hn : n ≤ 1048576) :
    Calls Try.prog 97 #[.slice A n c] w fun e w' => ∃ v, e = .returned v ∧ w'.ownsRow w.heap.size 5 1 v (4 * n) (bytesV (putsL ys)) ∧ Below w.heap.size w w' := by
  obtain ⟨i0, hi, hz0, hz1, hz2⟩ := info_parts info_u8
  have hyl : ys.length = n := Reads.len Rec.cells_len (by omega) hr
  have HL := Lib.hid hyl
  have HG := Lib.hid hg
  clear hyl hg
  go_enter Try.func97, Try.ntmps97
  go_wp2
  go_loopw [3, 11] (fun v i wr => ∃ k : Nat, k ≤ n ∧ i = .int .i64 k ∧ wr.ownsRow w.heap.size 5 1 v (4 * k) (bytesV (putsL (ys.take k))) ∧ Below w.heap.size w wr) (fun _ i _ => n - (intOf i).toNat)
  case atStart => exact ⟨0, by omega, rfl, by simpa [bytesV, putsL] using own_nil _ _ _ _, Below.refl _ _⟩
  case round =>
    obtain ⟨k, hk, rfl, hown, hbl⟩ := hrel
    by_cases hlt : k < n
    · obtain ⟨ad, y, rfl, had, hy, hc⟩ := rec_at (hr.below (hbl.mono hB)) hlt
      have gy := HG.out y (List.mem_of_getElem? hy)
      have HT := Lib.hid (putsL_take ys k y hy)
      obtain ⟨n1, n2, l1, l2⟩ := gy.nums
      have hlt' : (k : Int) < (n : Int) := by omega
      have HC : Hid (∀ j v, ([.int .u16 y.addr, .int .u8 y.data, .bool y.read, .bool y.ba, .bool y.bs, .bool y.lic, .bool y.avma, .bool y.busy, .bool y.mine] : List Value)[j]? = some v → wr.cell? ((ad.add (k * 9)).add j) = some v) := hc
      have hbs := hbl.size
      clear hc hy gy
      go_wp2_with (first | (refine wpList_load_at rfl 64 (.tmp 13) rfl (ad.add (k * 9)) rfl [.int .u16 y.addr, .int .u8 y.data, .bool y.read, .bool y.ba, .bool y.bs, .bool y.lic, .bool y.avma, .bool y.busy, .bool y.mine] _ HC.out Try.underlying64 rfl (by kernel_rfl) ?_) | (refine wpList_load_row rfl 64 (.tmp 5) rfl wr.heap.size rfl 64 _ (0, 0) _ (Blk.new wr _ #[.int .u16 y.addr, .int .u8 y.data, .bool y.read, .bool y.ba, .bool y.bs, .bool y.lic, .bool y.avma, .bool y.busy, .bool y.mine]) Try.underlying64 rfl (by kernel_rfl) ?_) | fail)
      refine (lines_any _ _ _ _ _ _ _ _ _ _).mono ?_
      rintro e w1 ⟨rfl, hb1⟩
      have hB5 := (Blk.new wr 64 #[.int .u16 y.addr, .int .u8 y.data, .bool y.read, .bool y.ba, .bool y.bs, .bool y.lic, .bool y.avma, .bool y.busy, .bool y.mine]).below hb1 (by simp)
      have hown1 := own_below (hown.alloc _) hb1
      have hbl1 := below_then (below_alloc hbl _) hb1
      have hneg : some wr.heap.size ≠ u3.ownBlock := fun e => by have := (hown.lt _ e.symm).2; omega
      have c0 := hB5.cell 0
      have c1 := hB5.cell 1
      simp only [List.getElem?_toArray, List.getElem?_cons_zero, List.getElem?_cons_succ] at c0 c1
      have hglt := hB5.lt
      have hs1 := hbl1.size
      clear hb1 hB5 hown
      go_wp2
      go_loop [6, 17] (fun bv i => ∃ m : Nat, m ≤ 7 ∧ i = .int .i64 m ∧ bv = .int .u8 (lvlN (decide (0 < m) && y.read) (decide (1 < m) && y.ba) (decide (2 < m) && y.bs) (decide (3 < m) && y.lic) (decide (4 < m) && y.avma) (decide (5 < m) && y.busy) (decide (6 < m) && y.mine) : Nat)) (fun _ i => 7 - (intOf i).toNat)
      case atStart => exact ⟨0, by omega, rfl, rfl⟩
      case round =>
        obtain ⟨m, hm, rfl, rfl⟩ := hrel
        by_cases h7 : m < 7
        · have seven : m = 0 ∨ m = 1 ∨ m = 2 ∨ m = 3 ∨ m = 4 ∨ m = 5 ∨ m = 6 := by omega
          rcases seven with rfl | rfl | rfl | rfl | rfl | rfl | rfl
          · have HV : Hid (lvlN (decide (0 < 0) && y.read) (decide (1 < 0) && y.ba) (decide (2 < 0) && y.bs) (decide (3 < 0) && y.lic) (decide (4 < 0) && y.avma) (decide (5 < 0) && y.busy) (decide (6 < 0) && y.mine) + bn y.read 1 = lvlN (decide (0 < 1) && y.read) (decide (1 < 1) && y.ba) (decide (2 < 1) && y.bs) (decide (3 < 1) && y.lic) (decide (4 < 1) && y.avma) (decide (5 < 1) && y.busy) (decide (6 < 1) && y.mine)) := by simp [Hid, lvlN, bn]
            have hq := lvlN_ltk ⟨0, by omega⟩ y.read y.ba y.bs y.lic y.avma y.busy y.mine
            dsimp only at hq
            generalize lvlN (decide (0 < 0) && y.read) (decide (1 < 0) && y.ba) (decide (2 < 0) && y.bs) (decide (3 < 0) && y.lic) (decide (4 < 0) && y.avma) (decide (5 < 0) && y.busy) (decide (6 < 0) && y.mine) = q at *
            have hor : bits .or .u8 (q : Int) 1 = (q : Int) + 1 := by
              have h := or_bitN 0 q (by omega) hq
              have e : ((2 ^ 0 : Nat) : Int) = 1 := by decide
              rw [e] at h
              rw [h]
              push_cast
              rfl
            have hix : ∀ W : World, (Instr.index 155 (.agg #[.bool y.read, .bool y.ba, .bool y.bs, .bool y.lic, .bool y.avma, .bool y.busy, .bool y.mine]) (.int .i64 0)).run Try.prog W = .ok (.bool y.read) W := fun W => by kernel_rfl
            have HBV : Hid (∀ b, y.read = b → q + bn b 1 = lvlN (decide (0 < 1) && y.read) (decide (1 < 1) && y.ba) (decide (2 < 1) && y.bs) (decide (3 < 1) && y.lic) (decide (4 < 1) && y.avma) (decide (5 < 1) && y.busy) (decide (6 < 1) && y.mine)) := fun b hb => by rw [← hb]; exact HV.out
            clear HV
            cases hbk : y.read
            all_goals
              rw [hbk] at hix
              go_wp2
              go_round
              case rel => exact ⟨1, by omega, rfl, congrArg (Value.int .u8) (by have h := HBV.out _ hbk; simp only [hbk, bn, if_true, Bool.false_eq_true, if_false] at h; omega)⟩
              case measure => simp [intOf]
          · have HV : Hid (lvlN (decide (0 < 1) && y.read) (decide (1 < 1) && y.ba) (decide (2 < 1) && y.bs) (decide (3 < 1) && y.lic) (decide (4 < 1) && y.avma) (decide (5 < 1) && y.busy) (decide (6 < 1) && y.mine) + bn y.ba 2 = lvlN (decide (0 < 2) && y.read) (decide (1 < 2) && y.ba) (decide (2 < 2) && y.bs) (decide (3 < 2) && y.lic) (decide (4 < 2) && y.avma) (decide (5 < 2) && y.busy) (decide (6 < 2) && y.mine)) := by simp [Hid, lvlN, bn]
            have hq := lvlN_ltk ⟨1, by omega⟩ y.read y.ba y.bs y.lic y.avma y.busy y.mine
            dsimp only at hq
            generalize lvlN (decide (0 < 1) && y.read) (decide (1 < 1) && y.ba) (decide (2 < 1) && y.bs) (decide (3 < 1) && y.lic) (decide (4 < 1) && y.avma) (decide (5 < 1) && y.busy) (decide (6 < 1) && y.mine) = q at *
            have hor : bits .or .u8 (q : Int) 2 = (q : Int) + 2 := by
              have h := or_bitN 1 q (by omega) hq
              have e : ((2 ^ 1 : Nat) : Int) = 2 := by decide
              rw [e] at h
              rw [h]
              push_cast
              rfl
            have hix : ∀ W : World, (Instr.index 155 (.agg #[.bool y.read, .bool y.ba, .bool y.bs, .bool y.lic, .bool y.avma, .bool y.busy, .bool y.mine]) (.int .i64 1)).run Try.prog W = .ok (.bool y.ba) W := fun W => by kernel_rfl
            have HBV : Hid (∀ b, y.ba = b → q + bn b 2 = lvlN (decide (0 < 2) && y.read) (decide (1 < 2) && y.ba) (decide (2 < 2) && y.bs) (decide (3 < 2) && y.lic) (decide (4 < 2) && y.avma) (decide (5 < 2) && y.busy) (decide (6 < 2) && y.mine)) := fun b hb => by rw [← hb]; exact HV.out
            clear HV
            cases hbk : y.ba
            all_goals
              rw [hbk] at hix
              go_wp2
              go_round
              case rel => exact ⟨2, by omega, rfl, congrArg (Value.int .u8) (by have h := HBV.out _ hbk; simp only [hbk, bn, if_true, Bool.false_eq_true, if_false] at h; omega)⟩
              case measure => simp [intOf]
          · have HV : Hid (lvlN (decide (0 < 2) && y.read) (decide (1 < 2) && y.ba) (decide (2 < 2) && y.bs) (decide (3 < 2) && y.lic) (decide (4 < 2) && y.avma) (decide (5 < 2) && y.busy) (decide (6 < 2) && y.mine) + bn y.bs 4 = lvlN (decide (0 < 3) && y.read) (decide (1 < 3) && y.ba) (decide (2 < 3) && y.bs) (decide (3 < 3) && y.lic) (decide (4 < 3) && y.avma) (decide (5 < 3) && y.busy) (decide (6 < 3) && y.mine)) := by simp [Hid, lvlN, bn]
            have hq := lvlN_ltk ⟨2, by omega⟩ y.read y.ba y.bs y.lic y.avma y.busy y.mine
            dsimp only at hq
            generalize lvlN (decide (0 < 2) && y.read) (decide (1 < 2) && y.ba) (decide (2 < 2) && y.bs) (decide (3 < 2) && y.lic) (decide (4 < 2) && y.avma) (decide (5 < 2) && y.busy) (decide (6 < 2) && y.mine) = q at *
            have hor : bits .or .u8 (q : Int) 4 = (q : Int) + 4 := by
              have h := or_bitN 2 q (by omega) hq
              have e : ((2 ^ 2 : Nat) : Int) = 4 := by decide
              rw [e] at h
              rw [h]
              push_cast
              rfl
            have hix : ∀ W : World, (Instr.index 155 (.agg #[.bool y.read, .bool y.ba, .bool y.bs, .bool y.lic, .bool y.avma, .bool y.busy, .bool y.mine]) (.int .i64 2)).run Try.prog W = .ok (.bool y.bs) W := fun W => by kernel_rfl
            have HBV : Hid (∀ b, y.bs = b → q + bn b 4 = lvlN (decide (0 < 3) && y.read) (decide (1 < 3) && y.ba) (decide (2 < 3) && y.bs) (decide (3 < 3) && y.lic) (decide (4 < 3) && y.avma) (decide (5 < 3) && y.busy) (decide (6 < 3) && y.mine)) := fun b hb => by rw [← hb]; exact HV.out
            clear HV
            cases hbk : y.bs
            all_goals
              rw [hbk] at hix
              go_wp2
              go_round
              case rel => exact ⟨3, by omega, rfl, congrArg (Value.int .u8) (by have h := HBV.out _ hbk; simp only [hbk, bn, if_true, Bool.false_eq_true, if_false] at h; omega)⟩
              case measure => simp [intOf]
          · have HV : Hid (lvlN (decide (0 < 3) && y.read) (decide (1 < 3) && y.ba) (decide (2 < 3) && y.bs) (decide (3 < 3) && y.lic) (decide (4 < 3) && y.avma) (decide (5 < 3) && y.busy) (decide (6 < 3) && y.mine) + bn y.lic 8 = lvlN (decide (0 < 4) && y.read) (decide (1 < 4) && y.ba) (decide (2 < 4) && y.bs) (decide (3 < 4) && y.lic) (decide (4 < 4) && y.avma) (decide (5 < 4) && y.busy) (decide (6 < 4) && y.mine)) := by simp [Hid, lvlN, bn]
            have hq := lvlN_ltk ⟨3, by omega⟩ y.read y.ba y.bs y.lic y.avma y.busy y.mine
            dsimp only at hq
            generalize lvlN (decide (0 < 3) && y.read) (decide (1 < 3) && y.ba) (decide (2 < 3) && y.bs) (decide (3 < 3) && y.lic) (decide (4 < 3) && y.avma) (decide (5 < 3) && y.busy) (decide (6 < 3) && y.mine) = q at *
            have hor : bits .or .u8 (q : Int) 8 = (q : Int) + 8 := by
              have h := or_bitN 3 q (by omega) hq
              have e : ((2 ^ 3 : Nat) : Int) = 8 := by decide
              rw [e] at h
              rw [h]
              push_cast
              rfl
            have hix : ∀ W : World, (Instr.index 155 (.agg #[.bool y.read, .bool y.ba, .bool y.bs, .bool y.lic, .bool y.avma, .bool y.busy, .bool y.mine]) (.int .i64 3)).run Try.prog W = .ok (.bool y.lic) W := fun W => by kernel_rfl
            have HBV : Hid (∀ b, y.lic = b → q + bn b 8 = lvlN (decide (0 < 4) && y.read) (decide (1 < 4) && y.ba) (decide (2 < 4) && y.bs) (decide (3 < 4) && y.lic) (decide (4 < 4) && y.avma) (decide (5 < 4) && y.busy) (decide (6 < 4) && y.mine)) := fun b hb => by rw [← hb]; exact HV.out
            clear HV
            cases hbk : y.lic
            all_goals
              rw [hbk] at hix
              go_wp2
              go_round
              case rel => exact ⟨4, by omega, rfl, congrArg (Value.int .u8) (by have h := HBV.out _ hbk; simp only [hbk, bn, if_true, Bool.false_eq_true, if_false] at h; omega)⟩
              case measure => simp [intOf]
          · have HV : Hid (lvlN (decide (0 < 4) && y.read) (decide (1 < 4) && y.ba) (decide (2 < 4) && y.bs) (decide (3 < 4) && y.lic) (decide (4 < 4) && y.avma) (decide (5 < 4) && y.busy) (decide (6 < 4) && y.mine) + bn y.avma 16 = lvlN (decide (0 < 5) && y.read) (decide (1 < 5) && y.ba) (decide (2 < 5) && y.bs) (decide (3 < 5) && y.lic) (decide (4 < 5) && y.avma) (decide (5 < 5) && y.busy) (decide (6 < 5) && y.mine)) := by simp [Hid, lvlN, bn]
            have hq := lvlN_ltk ⟨4, by omega⟩ y.read y.ba y.bs y.lic y.avma y.busy y.mine
            dsimp only at hq
            generalize lvlN (decide (0 < 4) && y.read) (decide (1 < 4) && y.ba) (decide (2 < 4) && y.bs) (decide (3 < 4) && y.lic) (decide (4 < 4) && y.avma) (decide (5 < 4) && y.busy) (decide (6 < 4) && y.mine) = q at *
            have hor : bits .or .u8 (q : Int) 16 = (q : Int) + 16 := by
              have h := or_bitN 4 q (by omega) hq
              have e : ((2 ^ 4 : Nat) : Int) = 16 := by decide
              rw [e] at h
              rw [h]
              push_cast
              rfl
            have hix : ∀ W : World, (Instr.index 155 (.agg #[.bool y.read, .bool y.ba, .bool y.bs, .bool y.lic, .bool y.avma, .bool y.busy, .bool y.mine]) (.int .i64 4)).run Try.prog W = .ok (.bool y.avma) W := fun W => by kernel_rfl
            have HBV : Hid (∀ b, y.avma = b → q + bn b 16 = lvlN (decide (0 < 5) && y.read) (decide (1 < 5) && y.ba) (decide (2 < 5) && y.bs) (decide (3 < 5) && y.lic) (decide (4 < 5) && y.avma) (decide (5 < 5) && y.busy) (decide (6 < 5) && y.mine)) := fun b hb => by rw [← hb]; exact HV.out
            clear HV
            cases hbk : y.avma
            all_goals
              rw [hbk] at hix
              go_wp2
              go_round
              case rel => exact ⟨5, by omega, rfl, congrArg (Value.int .u8) (by have h := HBV.out _ hbk; simp only [hbk, bn, if_true, Bool.false_eq_true, if_false] at h; omega)⟩
              case measure => simp [intOf]
          · have HV : Hid (lvlN (decide (0 < 5) && y.read) (decide (1 < 5) && y.ba) (decide (2 < 5) && y.bs) (decide (3 < 5) && y.lic) (decide (4 < 5) && y.avma) (decide (5 < 5) && y.busy) (decide (6 < 5) && y.mine) + bn y.busy 32 = lvlN (decide (0 < 6) && y.read) (decide (1 < 6) && y.ba) (decide (2 < 6) && y.bs) (decide (3 < 6) && y.lic) (decide (4 < 6) && y.avma) (decide (5 < 6) && y.busy) (decide (6 < 6) && y.mine)) := by simp [Hid, lvlN, bn]
            have hq := lvlN_ltk ⟨5, by omega⟩ y.read y.ba y.bs y.lic y.avma y.busy y.mine
            dsimp only at hq
            generalize lvlN (decide (0 < 5) && y.read) (decide (1 < 5) && y.ba) (decide (2 < 5) && y.bs) (decide (3 < 5) && y.lic) (decide (4 < 5) && y.avma) (decide (5 < 5) && y.busy) (decide (6 < 5) && y.mine) = q at *
            have hor : bits .or .u8 (q : Int) 32 = (q : Int) + 32 := by
              have h := or_bitN 5 q (by omega) hq
              have e : ((2 ^ 5 : Nat) : Int) = 32 := by decide
              rw [e] at h
              rw [h]
              push_cast
              rfl
            have hix : ∀ W : World, (Instr.index 155 (.agg #[.bool y.read, .bool y.ba, .bool y.bs, .bool y.lic, .bool y.avma, .bool y.busy, .bool y.mine]) (.int .i64 5)).run Try.prog W = .ok (.bool y.busy) W := fun W => by kernel_rfl
            have HBV : Hid (∀ b, y.busy = b → q + bn b 32 = lvlN (decide (0 < 6) && y.read) (decide (1 < 6) && y.ba) (decide (2 < 6) && y.bs) (decide (3 < 6) && y.lic) (decide (4 < 6) && y.avma) (decide (5 < 6) && y.busy) (decide (6 < 6) && y.mine)) := fun b hb => by rw [← hb]; exact HV.out
            clear HV
            cases hbk : y.busy
            all_goals
              rw [hbk] at hix
              go_wp2
              go_round
              case rel => exact ⟨6, by omega, rfl, congrArg (Value.int .u8) (by have h := HBV.out _ hbk; simp only [hbk, bn, if_true, Bool.false_eq_true, if_false] at h; omega)⟩
              case measure => simp [intOf]
          · have HV : Hid (lvlN (decide (0 < 6) && y.read) (decide (1 < 6) && y.ba) (decide (2 < 6) && y.bs) (decide (3 < 6) && y.lic) (decide (4 < 6) && y.avma) (decide (5 < 6) && y.busy) (decide (6 < 6) && y.mine) + bn y.mine 64 = lvlN (decide (0 < 7) && y.read) (decide (1 < 7) && y.ba) (decide (2 < 7) && y.bs) (decide (3 < 7) && y.lic) (decide (4 < 7) && y.avma) (decide (5 < 7) && y.busy) (decide (6 < 7) && y.mine)) := by simp [Hid, lvlN, bn]
            have hq := lvlN_ltk ⟨6, by omega⟩ y.read y.ba y.bs y.lic y.avma y.busy y.mine
            dsimp only at hq
            generalize lvlN (decide (0 < 6) && y.read) (decide (1 < 6) && y.ba) (decide (2 < 6) && y.bs) (decide (3 < 6) && y.lic) (decide (4 < 6) && y.avma) (decide (5 < 6) && y.busy) (decide (6 < 6) && y.mine) = q at *
            have hor : bits .or .u8 (q : Int) 64 = (q : Int) + 64 := by
              have h := or_bitN 6 q (by omega) hq
              have e : ((2 ^ 6 : Nat) : Int) = 64 := by decide
              rw [e] at h
              rw [h]
              push_cast
              rfl
            have hix : ∀ W : World, (Instr.index 155 (.agg #[.bool y.read, .bool y.ba, .bool y.bs, .bool y.lic, .bool y.avma, .bool y.busy, .bool y.mine]) (.int .i64 6)).run Try.prog W = .ok (.bool y.mine) W := fun W => by kernel_rfl
            have HBV : Hid (∀ b, y.mine = b → q + bn b 64 = lvlN (decide (0 < 7) && y.read) (decide (1 < 7) && y.ba) (decide (2 < 7) && y.bs) (decide (3 < 7) && y.lic) (decide (4 < 7) && y.avma) (decide (5 < 7) && y.busy) (decide (6 < 7) && y.mine)) := fun b hb => by rw [← hb]; exact HV.out
            clear HV
            cases hbk : y.mine
            all_goals
              rw [hbk] at hix
              go_wp2
              go_round
              case rel => exact ⟨7, by omega, rfl, congrArg (Value.int .u8) (by have h := HBV.out _ hbk; simp only [hbk, bn, if_true, Bool.false_eq_true, if_false] at h; omega)⟩
              case measure => simp [intOf]
        · obtain rfl : m = 7 := by omega
          have hm7 : (lvlN (decide (0 < 7) && y.read) (decide (1 < 7) && y.ba) (decide (2 < 7) && y.bs) (decide (3 < 7) && y.lic) (decide (4 < 7) && y.avma) (decide (5 < 7) && y.busy) (decide (6 < 7) && y.mine)) = lvlN y.read y.ba y.bs y.lic y.avma y.busy y.mine := rfl
          rw [hm7]
          clear hm7
          have hq := lvlN_lt y.read y.ba y.bs y.lic y.avma y.busy y.mine
          have HBY : Hid (bytesV y.bytes = [.int .u8 (y.addr / 256), .int .u8 (y.addr % 256), .int .u8 y.data, .int .u8 (lvlN y.read y.ba y.bs y.lic y.avma y.busy y.mine : Nat)]) := by
            have e0 : ((UInt8.ofNat (y.addr.toNat / 256)).toNat : Int) = y.addr / 256 := by rw [UInt8.toNat_ofNat']; omega
            have e1 : ((UInt8.ofNat (y.addr.toNat % 256)).toNat : Int) = y.addr % 256 := by rw [UInt8.toNat_ofNat']; omega
            have e2 : ((UInt8.ofNat y.data.toNat).toNat : Int) = y.data := by rw [UInt8.toNat_ofNat']; omega
            have e3 : ((UInt8.ofNat (lvlN y.read y.ba y.bs y.lic y.avma y.busy y.mine)).toNat : Int) = (lvlN y.read y.ba y.bs y.lic y.avma y.busy y.mine : Nat) := by rw [UInt8.toNat_ofNat']; omega
            show bytesV y.bytes = _
            simp only [bytesV, Rec.bytes, putL, List.map_cons, List.map_nil, e0, e1, e2, e3]
          have hone := bytesV_one y.bytes
          rw [HBY.out] at hone
          generalize lvlN y.read y.ba y.bs y.lic y.avma y.busy y.mine = q at *
          have HHI : Hid (∀ W : World, Calls Try.prog 24 #[.int .u16 y.addr] W fun e w' => e = .returned (.int .u8 (y.addr / 256)) ∧ W = w') := fun W => High_any _ W (by omega) (by omega)
          have HLO : Hid (∀ W : World, Calls Try.prog 25 #[.int .u16 y.addr] W fun e w' => e = .returned (.int .u8 (y.addr % 256)) ∧ W = w') := fun W => Low_any _ W (by omega) (by omega)
          have hgd : wr.heap.size < w1.drew.heap.size := by simpa using hglt
          have hne1 : wr.heap.size ≠ w1.heap.size := by omega
          clear n1 n2
          go_wp2
          go_region_held3 (fun w' => w'.cell? ⟨wr.heap.size, 0, none⟩ = some (.int .u16 y.addr) ∧ w'.cell? ⟨wr.heap.size, 1, none⟩ = some (.int .u8 y.data)) (first | (go_keep; done)) (first | (go_at_call 24; with_reducible refine (HHI.out _).mono ?_; rintro e w' ⟨rfl, rfl⟩) | (go_at_call 25; with_reducible refine (HLO.out _).mono ?_; rintro e w' ⟨rfl, rfl⟩) | (refine step_append_any _ rfl (.tmp 27) (.tmp 37) 37 rfl w.heap.size 5 i0 (.int .u8 0) 1 1 Try.underlying37 hi hz0 hz1 hz2 rfl (by omega) u3 (4 * k) (bytesV (putsL (ys.take k))) rfl (World.ownsRow.alloc (w := w1.drew) hown1 _) (w1.heap.size + 1) (some ⟨w1.heap.size, 0, none⟩) 4 4 [.int .u8 (y.addr / 256), .int .u8 (y.addr % 256), .int .u8 y.data, .int .u8 (q : Nat)] rfl (Reads.new1 w1.drew _ _ 4 _ rfl (Nat.lt_succ_self _)) hone (by simp only [maxLen]; omega) (by omega) (Nat.le_trans hs1 (by simp)) ?_; intro v1 w3 hown3 hg3 hat3; have s0 := World.cell?_of_block (a := ⟨wr.heap.size, 0, none⟩) (hg3.block _ (Nat.lt_of_lt_of_le hgd (by simp)) hneg); have s1 := World.cell?_of_block (a := ⟨wr.heap.size, 1, none⟩) (hg3.block _ (Nat.lt_of_lt_of_le hgd (by simp)) hneg)))
          have hbe : Below w.heap.size w w3 := below_own (w := w1.drew.alloc _) (below_alloc' (below_drewN hbl1 1)) (World.ownsRow.alloc (w := w1.drew) hown1 _) hg3 (Nat.le_trans hs1 (by simp))
          clear s0 s1 c0 c1
          go_wp2
          go_roundw
          case rel => exact ⟨k + 1, by omega, by go_num, by rw [HT.out, bytesV_append, HBY.out, show 4 * (k + 1) = 4 * k + 4 by omega]; exact hown3, hbe⟩
          case measure => simp [intOf]; omega
    · obtain rfl : k = n := by omega
      have hall : ys.take k = ys := List.take_of_length_le (by rw [HL.out]; exact Nat.le_refl _)
      rw [hall] at hown
      clear hall
      go_wp2
      go_ret
      exact ⟨_, rfl, hown, hbl⟩
end Go.Proofs.Ytgebopmiefgdoaa

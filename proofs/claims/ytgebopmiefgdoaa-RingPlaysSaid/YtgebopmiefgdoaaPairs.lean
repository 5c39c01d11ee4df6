/-
  The contract of digit.Pairs, and alive of the chapter.
-/
import Derived.Test.YtgebopmiefgdoaaDigit3
import Derived.Test.YtgebopmiefgdoaaBytes
namespace Go.Proofs.Ytgebopmiefgdoaa
open Go.RowKit
def pairsL (l : List UInt8) : List UInt8 := l.flatMap fun c => [dig (c.toNat / 16), dig (c.toNat % 16)]
theorem pairsL_length (l : List UInt8) : (pairsL l).length = 2 * l.length := by
  induction l with
  | nil => rfl
  | cons c l ih => simp [pairsL] at *; omega
theorem pairsL_take (l : List UInt8) (k : Nat) (c : UInt8) (h : l[k]? = some c) : pairsL (l.take (k + 1)) = pairsL (l.take k) ++ [dig (c.toNat / 16), dig (c.toNat % 16)] := by
  obtain ⟨hk, rfl⟩ := List.getElem?_eq_some_iff.1 h
  rw [List.take_succ_eq_append_getElem hk]
  unfold pairsL
  rw [List.flatMap_append]
  simp
set_option maxRecDepth 100000 in
set_option maxHeartbeats 2000000 in
theorem Pairs_any (l : List UInt8) (A : Option Addr) (n c B : Nat) (w : World) (hB : B ≤ w.heap.size) (hr : Reads w B 1 A n (bytesV l)) (hn : n ≤ 4294967296) :
    Calls Try.prog 32 #[.slice A n c] w fun e w' => e = .returned (.string ⟨(pairsL l).toArray⟩) ∧ Below w.heap.size w w' := by
  obtain ⟨i0, hi, hz0, hz1, hz2⟩ := info_parts info_u8
  have hln : l.length = n := by simpa [bytesV] using hr.1
  have HLN := Lib.hid hln
  clear hln
  have hmk : ∀ u : World, (Instr.makeSlice 37 (.int .i64 0) (.int .i64 (2 * (n : Int)))).run Try.prog u =
      .ok (.slice (some ⟨u.heap.size, 0, none⟩) 0 (2 * n)) (u.alloc (.cells (madeCells #[.int .u8 0] (2 * n)) 5)) := fun u => by
    have h := run_make (P := Try.prog) u 37 5 i0 (.int .u8 0) Try.underlying37 hi hz0 .i64 .i64 0 (2 * (n : Int)) (by omega) (by omega) (by rw [hz2]; omega) (by omega)
    have e : (2 * (n : Int)).toNat = 2 * n := by omega
    rw [e] at h
    simpa [hz1, Value.cells] using h
  go_enter Try.func32, Try.ntmps32
  go_wp2
  go_loopw [3, 12] (fun v i wr => ∃ k : Nat, k ≤ n ∧ i = .int .i64 k ∧ wr.ownsRow w.heap.size 5 1 v (2 * k) (bytesV (pairsL (l.take k))) ∧ Below w.heap.size w wr) (fun _ i _ => n - (intOf i).toNat)
  case atStart =>
    refine ⟨0, by omega, rfl, ?_, below_alloc (Below.refl _ _) _⟩
    exact World.ownsRow_made w _ (2 * n) (Nat.le_refl _) (by simp only [maxLen]; omega) (by simp [madeCells])
  case round =>
    obtain ⟨k, hk, rfl, hown, hbl⟩ := hrel
    by_cases hlt : k < n
    · obtain ⟨ad, u, rfl, hab, hu, hcell⟩ := hr.at_ hlt
      obtain ⟨c, hx, rfl⟩ := bytesV_get l k u hu
      have hcell' := (hbl.cell (p := ad.add k) (by rw [block_of_add]; omega)).trans hcell
      have HT := Lib.hid (pairsL_take l k c hx)
      have hc2 := c.toNat_lt
      have hand : bits .and .u8 (c.toNat : Int) 15 = (c.toNat : Int) % 16 := bits_mask .u8 8 (by decide) wraps_u8 4 (by decide) c.toNat (by omega) (by omega)
      clear hu hcell hx
      have hnew : Reads (wr.alloc (.cells #[.int .u8 (dig (c.toNat / 16)).toNat, .int .u8 (dig (c.toNat % 16)).toNat] 5)) (wr.heap.size + 1) 1 (some ⟨wr.heap.size, 0, none⟩) 2 (bytesV [dig (c.toNat / 16), dig (c.toNat % 16)]) := Reads.new1 wr _ _ 2 _ rfl (Nat.lt_succ_self _)
      have hone : ∀ u ∈ bytesV [dig (c.toNat / 16), dig (c.toNat % 16)], u.oneCell' = true := by simp [bytesV, Value.oneCell']
      go_wp2_with (first | (go_at_call 106; refine (sign_any _ _ (by omega) (by omega)).mono ?_; rintro e w1 ⟨rfl, rfl⟩) | (at_builtin; refine wpList_append_any _ rfl (.tmp 16) (.tmp 23) 37 rfl w.heap.size 5 i0 (.int .u8 0) 1 1 Try.underlying37 hi hz0 hz1 hz2 rfl (by omega) _ (2 * k) (bytesV (pairsL (l.take k))) rfl (hown.alloc _) (wr.heap.size + 1) (some ⟨wr.heap.size, 0, none⟩) 2 2 (bytesV [dig (c.toNat / 16), dig (c.toNat % 16)]) rfl hnew hone (by simp only [maxLen]; omega) (by omega) (Nat.le_trans hbl.size (by simp)) ?_; intro v1 w1 hown1 hg1 hat1))
      go_roundw
      case rel =>
        refine ⟨k + 1, by omega, by go_num, ?_, ?_⟩
        · rw [HT.out]
          have e : 2 * (k + 1) = 2 * k + 2 := by omega
          rw [e]
          simpa [bytesV] using hown1
        · exact below_own (below_alloc' hbl) (hown.alloc _) hg1 (by have := hbl.size; simp; omega)
      case measure => simp [intOf]; omega
    · obtain rfl : k = n := by omega
      obtain ⟨A1, c1, hv1, hrd, hnc1, _⟩ := own_reads hown
      have hall : l.take k = l := List.take_of_length_le (by rw [HLN.out]; exact Nat.le_refl _)
      rw [hall] at hrd
      have hcv := conv_bytes_str (P := Try.prog) (src := 37) (dst := 9) Try.underlying37 Try.underlying5 Try.underlying9 c1 hrd
      subst hv1
      clear hown hrd hall
      go_wp2
      go_ret
      exact ⟨rfl, hbl⟩
theorem alive02 (w : World) :
    Calls Try.prog 37 #[] w fun e w' => e = .returned (.bool true) ∧ Below w.heap.size w w' := by
  have hh : (ndig 16 (kd 16 171 (min 4 16 : Int).toNat) 171) = [48, 48, 65, 66] := by decide +kernel
  have HH := Lib.hid hh
  have HP : Hid (pairsL [1, 171] = [48, 49, 65, 66]) := by unfold Hid; decide +kernel
  clear hh
  go_enter Try.func37, Try.ntmps37
  go_wp2_with (first | (go_at_call 74; refine (Hex_any 171 4 _ (by omega) (by omega) (by omega)).mono ?_; rintro e w1 ⟨rfl, hb1⟩; rw [HH.out]) | (go_at_call 32; refine (Pairs_any [1, 171] _ 2 2 _ _ (Nat.le_refl _) (Reads.new1 w1 _ _ 2 _ rfl (by simp)) (by omega)).mono ?_; rintro e w2 ⟨rfl, hb2⟩; rw [HP.out]))
  go_ret
  exact ⟨rfl, (hb1.trans ((below_alloc (Below.refl _ _) _).mono hb1.size)).trans (hb2.mono (by have := hb1.size; simp; omega))⟩
theorem RefHex_any (l : List UInt8) (w : World) (hl : l.length ≤ 4611686018427387904) :
    Calls Try.prog 58 #[.string ⟨l.toArray⟩, .int .u64 16, .int .i64 16] w fun e w' => e = .returned (.tuple #[.int .u64 (readS 16 16 l).1, .int .i64 (readS 16 16 l).2]) ∧ w = w' := RefRead16_any l 16 w hl (by omega) (by omega)
theorem RefPair_any (l : List UInt8) (w : World) (hl : l.length ≤ 4611686018427387904) :
    Calls Try.prog 58 #[.string ⟨l.toArray⟩, .int .u64 16, .int .i64 2] w fun e w' => e = .returned (.tuple #[.int .u64 (readS 16 2 l).1, .int .i64 (readS 16 2 l).2]) ∧ w = w' := RefRead16_any l 2 w hl (by omega) (by omega)
theorem RefDec_any (l : List UInt8) (w : World) (hl : l.length ≤ 4611686018427387904) :
    Calls Try.prog 58 #[.string ⟨l.toArray⟩, .int .u64 10, .int .i64 20] w fun e w' => e = .returned (.tuple #[.int .u64 (readS 10 20 l).1, .int .i64 (readS 10 20 l).2]) ∧ w = w' := RefRead10_any l 20 w hl (by omega) (by omega)
end Go.Proofs.Ytgebopmiefgdoaa

/-
  Contracts of ram.Write and ram.Load.
-/
import Derived.Test.YtgebopmiefgdoaaRam3
namespace Go.Proofs.Ytgebopmiefgdoaa
open Go.RowKit
theorem Poke_a {B g : Nat} {m : Nat → UInt8} {rom : Int} {pb : Nat → Option Nat} {cs : Array Value} (a : Nat) (x : UInt8) (w : World) (h : RamAt B g m rom pb cs w) (hBw : B ≤ w.heap.size) (ha : a < 65536) :
    Calls Try.prog 87 #[.pointer (some ⟨g, 0, none⟩), .int .u16 (a : Int), .int .u8 (x.toNat : Int)] w fun e w' => e = .returned (.tuple #[]) ∧ RamStep B g (upd m a x) rom pb w w' := by
  have h1 := Poke_any (a / 256) (a % 256) x w h hBw (by omega) (by omega)
  rw [show 256 * (a / 256) + a % 256 = a by omega] at h1
  exact h1
theorem Read_a {B g : Nat} {m : Nat → UInt8} {rom : Int} {pb : Nat → Option Nat} {cs : Array Value} (a : Nat) (w : World) (h : RamAt B g m rom pb cs w) (ha : a < 65536) :
    Calls Try.prog 114 #[.pointer (some ⟨g, 0, none⟩), .int .u16 (a : Int)] w fun e w' => e = .returned (.int .u8 ((m a).toNat : Int)) ∧ Below w.heap.size w w' := by
  have h1 := RamRead_any (a / 256) (a % 256) w h (by omega) (by omega)
  rw [show 256 * (a / 256) + a % 256 = a by omega] at h1
  exact h1
set_option maxRecDepth 100000 in
set_option maxHeartbeats 2000000 in
theorem Write_a {B g : Nat} {m : Nat → UInt8} {rom : Int} {pb : Nat → Option Nat} {cs : Array Value} (a : Nat) (x : UInt8) (w : World) (h : RamAt B g m rom pb cs w) (hBw : B ≤ w.heap.size) (ha : a < 65536) :
    Calls Try.prog 91 #[.pointer (some ⟨g, 0, none⟩), .int .u16 (a : Int), .int .u8 (x.toNat : Int)] w fun e w' => e = .returned (.bool (decide ((a : Int) < rom))) ∧ RamStep B g (if (a : Int) < rom then upd m a x else m) rom pb w w' := by
  have c := (h.blk.cell 256).trans h.romc
  by_cases hr : (a : Int) < rom
  · rw [decide_eq_true hr, if_pos hr]
    have HP := Lib.hid (Poke_a a x w h hBw ha)
    clear h
    go_enter Try.func91, Try.ntmps91
    go_wp2_with ((go_at_call 87; with_reducible refine HP.out.mono ?_; rintro e w1 ⟨rfl, h1⟩))
    go_ret
    exact ⟨rfl, h1⟩
  · rw [decide_eq_false hr, if_neg hr]
    have hr' : rom ≤ (a : Int) := by omega
    have HS := Lib.hid (RamStep.refl h)
    clear h hr
    go_enter Try.func91, Try.ntmps91
    go_wp2
    go_ret
    exact ⟨rfl, HS.out⟩
/-- Memory with the bytes l from a on. -/
def updL (m : Nat → UInt8) (a : Nat) (l : List UInt8) : Nat → UInt8 := fun k => if a ≤ k ∧ k < a + l.length then l.getD (k - a) 0 else m k
theorem updL_nil (m : Nat → UInt8) (a : Nat) : updL m a [] = m := by
  funext k
  unfold updL
  rw [if_neg (by simp)]
theorem updL_take (m : Nat → UInt8) (a : Nat) (l : List UInt8) (k : Nat) (x : UInt8) (h : l[k]? = some x) : updL m a (l.take (k + 1)) = upd (updL m a (l.take k)) (a + k) x := by
  obtain ⟨hk, rfl⟩ := List.getElem?_eq_some_iff.1 h
  funext q
  unfold upd updL
  simp only [List.length_take, List.getD_eq_getElem?_getD, List.getElem?_take]
  by_cases hq : q = a + k
  · subst hq
    rw [if_pos ⟨by omega, by omega⟩, if_pos rfl, if_pos (by omega), show a + k - a = k by omega, List.getElem?_eq_getElem hk]
    rfl
  · rw [if_neg hq]
    by_cases h1 : a ≤ q ∧ q < a + min k l.length
    · rw [if_pos h1, if_pos ⟨by omega, by omega⟩, if_pos (by omega), if_pos (by omega)]
    · rw [if_neg h1, if_neg (by omega)]
set_option maxRecDepth 100000 in
set_option maxHeartbeats 4000000 in
theorem Load_any {B g : Nat} {m : Nat → UInt8} {rom : Int} {pb : Nat → Option Nat} {cs : Array Value} (a : Nat) (l : List UInt8) (A : Option Addr) (n c : Nat) (w : World) (h : RamAt B g m rom pb cs w) (hBw : B ≤ w.heap.size) (hr : Reads w B 1 A n (bytesV l)) (ha : a + n ≤ 65536) :
    Calls Try.prog 88 #[.pointer (some ⟨g, 0, none⟩), .int .i64 (a : Int), .slice A n c] w fun e w' => e = .returned (.int .i64 0) ∧ RamStep B g (updL m a l) rom pb w w' := by
  have hln : l.length = n := by simpa [bytesV] using hr.1
  have HLN := Lib.hid hln
  have HH := Lib.hid h
  clear hln h
  have ha0 : (0 : Int) ≤ (a : Int) := by omega
  have ha1 : (a : Int) ≤ 65536 := by omega
  have ha2 : (n : Int) ≤ 65536 - (a : Int) := by omega
  go_enter Try.func88, Try.ntmps88
  go_wp2
  go_loopw [24] (fun i wr => ∃ k : Nat, k ≤ n ∧ i = .int .i64 k ∧ RamStep B g (updL m a (l.take k)) rom pb w wr) (fun i _ => n - (intOf i).toNat)
  case atStart => exact ⟨0, by omega, rfl, by rw [List.take_zero, updL_nil]; exact RamStep.refl HH.out⟩
  case round =>
    obtain ⟨k, hk, rfl, hst⟩ := hrel
    by_cases hlt : k < n
    · obtain ⟨ad, u, rfl, hab, hu, hcell⟩ := hr.at_ hlt
      obtain ⟨x, hx, rfl⟩ := bytesV_get l k u hu
      have hcell' := (hst.below.cell (p := ad.add k) (by rw [block_of_add]; exact hab)).trans hcell
      have HT := Lib.hid (updL_take m a l k x hx)
      have hlt' : (k : Int) < (n : Int) := by omega
      have HPK : Hid (∀ pb' cs', RamAt B g (updL m a (l.take k)) rom pb' cs' wr → Calls Try.prog 87 #[.pointer (some ⟨g, 0, none⟩), .int .u16 ((a : Int) + (k : Int)), .int .u8 (x.toNat : Int)] wr fun e w' => e = .returned (.tuple #[]) ∧ RamStep B g (updL m a (l.take (k + 1))) rom pb' wr w') := fun pb' cs' hR => by
        have h1 := Poke_a (a + k) x wr hR (Nat.le_trans hBw hst.only.size) (by omega)
        rw [← HT.out] at h1
        rw [show ((a : Int) + (k : Int)) = ((a + k : Nat) : Int) by omega]
        exact h1
      have hak : (a : Int) + (k : Int) < 65536 := by omega
      have HST := Lib.hid hst
      obtain ⟨pb1, cs1, hR1, hsub⟩ := hst.ram
      clear hu hx hcell HT hst
      have HR1 := Lib.hid hR1
      clear hR1
      go_wp2_with ((go_at_call 87; refine (HPK.out pb1 cs1 HR1.out).mono ?_; rintro e w1 ⟨rfl, h1⟩))
      go_roundw
      case rel =>
        refine ⟨k + 1, by omega, by go_num, ?_⟩
        obtain ⟨⟨pb2, cs2, hr2, hsub2⟩, ho2, hb2⟩ := h1
        have ho1 := HST.out.only
        refine ⟨⟨pb2, cs2, hr2, fun i b hi e => ?_⟩, ⟨ho2.os.trans ho1.os, ho2.tape.trans ho1.tape, ho2.output.trans ho1.output, Nat.le_trans ho1.size ho2.size, fun q hq hqg hqp => ?_⟩, HST.out.below.trans hb2⟩
        · rcases hsub2 i b hi e with e1 | e1
          · exact hsub i b hi e1
          · exact .inr (Nat.le_trans ho1.size e1)
        · refine (ho2.block q (Nat.lt_of_lt_of_le hq ho1.size) hqg fun i hi e => ?_).trans (ho1.block q hq hqg hqp)
          rcases hsub i q hi e with e1 | e1
          · exact hqp i hi e1
          · omega
      case measure => simp [intOf]; omega
    · obtain rfl : k = n := by omega
      have hall : l.take k = l := List.take_of_length_le (by rw [HLN.out]; exact Nat.le_refl _)
      rw [hall] at hst
      clear hall
      go_wp2
      go_ret
      exact ⟨rfl, hst⟩
end Go.Proofs.Ytgebopmiefgdoaa

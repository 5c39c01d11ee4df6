/-
  Contracts of the edge package and the walks of the laws EdgeSteps and EdgeKept.
-/
import Derived.Test.YtgebopmiefgdoaaBase
import Derived.WalkKit
import Derived.WalkSpells
import Derived.KernelRfl
import Derived.Deep.Draws
import Derived.Deep.QuietTactic
import Derived.BigQuiet
import Derived.RowKit3
import Derived.Lib.Hide
import Derived.Deep.RegionHeld3
namespace Go.Proofs.Ytgebopmiefgdoaa
open Go.RowKit
theorem Sample_any (a b c lv : Bool) (w : World) :
    Calls Try.prog 28 #[.agg #[.bool a, .bool b, .bool c], .bool lv] w fun e w' => e = .returned (.agg #[.bool lv, .bool b, .bool (c || b && lv && !a)]) ∧ Below w.heap.size w w' := by
  go_enter Try.func28, Try.ntmps28
  go_wp2
  all_goals
    refine bodyPost_ret (by first | (simp [results, Try.results28, go_sem]; done) | (simp [results, Try.results28, go_sem]; rfl)) rfl ⟨?_, by repeat (first | exact Below.refl _ _ | apply below_alloc)⟩
    simp_all
theorem Arm_any (a b c : Bool) (w : World) :
    Calls Try.prog 29 #[.agg #[.bool a, .bool b, .bool c]] w fun e w' => e = .returned (.agg #[.bool a, .bool true, .bool c]) ∧ Below w.heap.size w w' := by
  go_enter Try.func29, Try.ntmps29
  go_wp2
  refine bodyPost_ret (by first | (simp [results, Try.results29, go_sem]; done) | (simp [results, Try.results29, go_sem]; rfl)) rfl ⟨rfl, by repeat (first | exact Below.refl _ _ | apply below_alloc)⟩
theorem Take_any (a b c : Bool) (w : World) :
    Calls Try.prog 30 #[.agg #[.bool a, .bool b, .bool c]] w fun e w' => e = .returned (.agg #[.bool a, .bool b, .bool false]) ∧ Below w.heap.size w w' := by
  go_enter Try.func30, Try.ntmps30
  go_wp2
  refine bodyPost_ret (by first | (simp [results, Try.results30, go_sem]; done) | (simp [results, Try.results30, go_sem]; rfl)) rfl ⟨rfl, by repeat (first | exact Below.refl _ _ | apply below_alloc)⟩
theorem Reset_any (a b c : Bool) (w : World) :
    Calls Try.prog 31 #[.agg #[.bool a, .bool b, .bool c]] w fun e w' => e = .returned (.agg #[.bool a, .bool false, .bool false]) ∧ Below w.heap.size w w' := by
  go_enter Try.func31, Try.ntmps31
  go_wp2
  refine bodyPost_ret (by first | (simp [results, Try.results31, go_sem]; done) | (simp [results, Try.results31, go_sem]; rfl)) rfl ⟨rfl, by repeat (first | exact Below.refl _ _ | apply below_alloc)⟩
def sampleF (s : Bool × Bool × Bool) (lv : Bool) : Bool × Bool × Bool := (lv, s.2.1, s.2.2 || s.2.1 && lv && !s.1)
def latchV (s : Bool × Bool × Bool) : Value := .agg #[.bool s.1, .bool s.2.1, .bool s.2.2]
theorem Sample_any' (s : Bool × Bool × Bool) (lv : Bool) (w : World) :
    Calls Try.prog 28 #[.agg #[.bool s.1, .bool s.2.1, .bool s.2.2], .bool lv] w fun e w' => e = .returned (.agg #[.bool (sampleF s lv).1, .bool (sampleF s lv).2.1, .bool (sampleF s lv).2.2]) ∧ Below w.heap.size w w' := Sample_any _ _ _ _ _
theorem fold_snoc {α β : Type} (f : β → α → β) (s : β) (l : List α) (k : Nat) (x : α) (h : l[k]? = some x) : (l.take (k + 1)).foldl f s = f ((l.take k).foldl f s) x := by
  obtain ⟨hk, rfl⟩ := List.getElem?_eq_some_iff.1 h
  rw [List.take_succ_eq_append_getElem hk, List.foldl_append]; rfl
theorem All_any (s : Bool × Bool × Bool) (l : List Bool) (A : Option Addr) (cap n : Nat) (B : Nat) (w : World) (hB : B ≤ w.heap.size) (hr : Reads w B 1 A n (l.map (Value.bool))) (hm : n ≤ 9223372036854775807) :
    Calls Try.prog 26 #[.agg #[.bool s.1, .bool s.2.1, .bool s.2.2], .slice A n cap] w fun e w' => e = .returned (.agg #[.bool (l.foldl sampleF s).1, .bool (l.foldl sampleF s).2.1, .bool (l.foldl sampleF s).2.2]) ∧ Below w.heap.size w w' := by
  have hln : l.length = n := by simpa using hr.1
  have HLN := Lib.hid hln
  clear hln
  go_enter Try.func26, Try.ntmps26
  go_wp2
  go_loopw [9] (fun i wr => ∃ k : Nat, k ≤ n ∧ i = .int .i64 k ∧ Below w.heap.size w wr ∧ Blk wr w.heap.size 31 #[.bool ((l.take k).foldl sampleF s).1, .bool ((l.take k).foldl sampleF s).2.1, .bool ((l.take k).foldl sampleF s).2.2] ∧ Blk wr (w.heap.size + 1) 31 #[.bool false, .bool false, .bool false])
     (fun i _ => n - (intOf i).toNat)
  case atStart =>
    exact ⟨0, Nat.zero_le _, rfl, by repeat (first | exact Below.refl _ _ | apply below_alloc), (Blk.new w _ _).alloc _, by simpa using Blk.new (w.alloc _) _ _⟩
  case round =>
    obtain ⟨k, hk, rfl, hbl, hb0, hb1⟩ := hrel
    have hs1 := hb1.lt
    obtain ⟨hc0, hc1, hc2⟩ := hb0.c3
    obtain ⟨hd0, hd1, hd2⟩ := hb1.c3
    have hf0 := hb0.frozen
    have hf1 := hb1.frozen
    by_cases hlt : k < n
    · obtain ⟨ad, u, rfl, hab, hu, hcell⟩ := hr.at_ hlt
      have hcell' := (hbl.cell (p := ad.add k) (by rw [block_of_add]; omega)).trans hcell
      rw [List.getElem?_map] at hu
      obtain ⟨x, hx, rfl⟩ := Option.map_eq_some_iff.1 hu
      have HX := Lib.hid hx
      clear hx hu hcell
      go_wp2_with (go_at_call 28; refine (Sample_any' _ _ _).mono ?_; rintro e w1 ⟨rfl, hb2⟩; have hb0' := hb0.below hb2 (by omega); have hb1' := hb1.below hb2 hs1; have hs2 := hb1'.lt; obtain ⟨gc0, gc1, gc2⟩ := hb0'.c3; have gf0 := hb0'.frozen; have gf1 := hb1'.frozen)
      go_roundw
      case rel =>
        have hfs := fold_snoc sampleF s l k x HX.out
        refine ⟨k + 1, by omega, by go_num, ?_, ?_, ?_⟩
        · exact (((hbl.trans (hb2.mono (by omega))).setCell (Nat.le_refl _) _).setCell (Nat.le_refl _) _).setCell (Nat.le_refl _) _
        · rw [hfs]
          simpa using (((hb0'.set_ 0 (.bool (sampleF ((l.take k).foldl sampleF s) x).1)).set_ 1 (.bool (sampleF ((l.take k).foldl sampleF s) x).2.1)).set_ 2 (.bool (sampleF ((l.take k).foldl sampleF s) x).2.2))
        · exact ((hb1'.far (p := ⟨w.heap.size, 0, none⟩) (by simp) _).far (p := ⟨w.heap.size, 1, none⟩) (by simp) _).far (p := ⟨w.heap.size, 2, none⟩) (by simp) _
      case measure => simp [intOf]; omega
    · obtain rfl : k = n := by omega
      go_wp2
      have hall : l.take k = l := List.take_of_length_le (by rw [HLN.out]; exact Nat.le_refl _)
      refine bodyPost_ret (by simp [results, Try.results26, go_sem, hd0, hd1, hd2]; rfl) rfl ⟨by rw [hall], ?_⟩
      exact ((hbl.setCell (by simp) _).setCell (by simp) _).setCell (by simp) _
theorem alive28 (w : World) :
    Calls Try.prog 27 #[] w fun e w' => e = .returned (.bool true) ∧ Below w.heap.size w w' := by
  go_enter Try.func27, Try.ntmps27
  go_wp2_with (go_at_call 26; refine (All_any (false, true, false) [true, false] (some ⟨w.heap.size, 0, none⟩) 2 2 (w.heap.size + 1) _ (by simp) (Reads.new1 w _ _ 2 _ rfl (by omega)) (by omega)).mono ?_; rintro e w1 ⟨rfl, hb⟩; simp [sampleF])
  go_ret
  exact ⟨rfl, (below_alloc (Below.refl _ _) _).trans (hb.mono (by simp))⟩
end Go.Proofs.Ytgebopmiefgdoaa

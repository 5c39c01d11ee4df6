/-
  Contract of ram.Poke, whatever the page.
-/
import Derived.Test.YtgebopmiefgdoaaRam2
namespace Go.Proofs.Ytgebopmiefgdoaa
open Go.RowKit
theorem zeroCells : (List.replicate 256 (Value.int .u8 0)).toArray = madeCells #[.int .u8 0] 256 := by kernel_rfl
theorem madeZero (j : Nat) (hj : j < 256) : (madeCells #[.int .u8 0] 256)[j]? = some (.int .u8 0) := by
  rw [← zeroCells]
  simp [hj, -List.reduceReplicate]
theorem pageL_zero (m : Nat → UInt8) (i : Nat) (h : ∀ j, j < 256 → m (256 * i + j) = 0) : (pageL m i).toArray = madeCells #[.int .u8 0] 256 := by
  have e : pageL m i = List.replicate 256 (.int .u8 0) := by
    unfold pageL
    rw [List.eq_replicate_iff]
    refine ⟨by simp, fun v hv => ?_⟩
    rw [List.mem_map] at hv
    obtain ⟨j, hj, rfl⟩ := hv
    rw [List.mem_range] at hj
    rw [h j hj]
    rfl
  rw [e]
  exact zeroCells
theorem RamAt.fresh {B g : Nat} {m : Nat → UInt8} {rom : Int} {pb : Nat → Option Nat} {cs : Array Value} {w : World} (h : RamAt B g m rom pb cs w) (hBw : B ≤ w.heap.size) (i : Nat) (hi : i < 256) (hp : pb i = none) :
    RamAt B g m rom (fun k => if k = i then some w.heap.size else pb k) (cs.setIfInBounds i (pv 256 (some w.heap.size))) ((w.setCell ⟨g, i, none⟩ (pv 256 (some w.heap.size))).alloc (.cells (madeCells #[.int .u8 0] 256) 5)) := by
  have hlt := h.blk.lt
  refine ⟨h.hB, (h.blk.set_ i _).alloc _, by rw [Array.size_setIfInBounds]; exact h.size, ?_, fun k hk => ?_, fun k hk hpk => ?_, fun k b hk hpk => ?_, fun k l b hk hl hpk hpl => ?_⟩
  · rw [Array.getElem?_setIfInBounds_ne (by omega)]
    exact h.romc
  · by_cases hki : k = i
    · subst hki
      exact ⟨256, Nat.le_refl _, by rw [Array.getElem?_setIfInBounds_self_of_lt (by rw [h.size]; omega), if_pos rfl]⟩
    · rw [Array.getElem?_setIfInBounds_ne (fun e => hki e.symm), if_neg hki]
      exact h.cell k hk
  · by_cases hki : k = i
    · rw [if_pos hki] at hpk; cases hpk
    · rw [if_neg hki] at hpk
      exact h.nilp k hk hpk
  · by_cases hki : k = i
    · subst hki
      rw [if_pos rfl] at hpk
      obtain rfl := Option.some.inj hpk
      refine ⟨⟨madeCells #[.int .u8 0] 256, ?_, fun j hj => ?_⟩, hBw, by omega⟩
      · have hn := Blk.new (w.setCell ⟨g, k, none⟩ (pv 256 (some w.heap.size))) 5 (madeCells #[.int .u8 0] 256)
        simpa using hn
      · rw [madeZero j hj, h.nilp k hk hp j hj]
        rfl
    · rw [if_neg hki] at hpk
      obtain ⟨⟨ps, g1, g4⟩, g2, g3⟩ := h.page k b hk hpk
      exact ⟨⟨ps, (g1.far g3 _).alloc _, g4⟩, g2, g3⟩
  · have hold : ∀ k b, k < 256 → pb k = some b → b < w.heap.size := fun k b hk e => (h.page k b hk e).1.elim fun ps hps => hps.1.lt
    by_cases hki : k = i
    · by_cases hli : l = i
      · rw [hki, hli]
      · rw [if_pos hki] at hpk
        rw [if_neg hli] at hpl
        have := hold l b hl hpl
        have := Option.some.inj hpk
        omega
    · by_cases hli : l = i
      · rw [if_neg hki] at hpk
        rw [if_pos hli] at hpl
        have := hold k b hk hpk
        have := Option.some.inj hpl
        omega
      · rw [if_neg hki] at hpk
        rw [if_neg hli] at hpl
        exact h.inj k l b hk hl hpk hpl
theorem upd_same (m : Nat → UInt8) (a : Nat) (h : m a = 0) : upd m a 0 = m := by
  funext k
  unfold upd
  split
  · rename_i e; rw [e, h]
  · rfl
set_option maxRecDepth 100000 in
set_option maxHeartbeats 2000000 in
theorem Poke_none {B g : Nat} {m : Nat → UInt8} {rom : Int} {pb : Nat → Option Nat} {cs : Array Value} (i j : Nat) (x : UInt8) (w : World) (h : RamAt B g m rom pb cs w) (hBw : B ≤ w.heap.size) (hi : i < 256) (hj : j < 256) (hp : pb i = none) (hx : x ≠ 0) :
    Calls Try.prog 87 #[.pointer (some ⟨g, 0, none⟩), .int .u16 ((256 * i + j : Nat) : Int), .int .u8 (x.toNat : Int)] w fun e w' => e = .returned (.tuple #[]) ∧ RamAt B g (upd m (256 * i + j) x) rom (fun k => if k = i then some w.heap.size else pb k) (cs.setIfInBounds i (pv 256 (some w.heap.size))) w' ∧ OnlyRam g pb w w' ∧ Below B w w' := by
  obtain ⟨i0, hi', hz0, hz1, hz2⟩ := info_parts info_u8
  obtain ⟨cap0, hcap0, hce0⟩ := h.cell i hi
  have c := (h.blk.cell i).trans hce0
  clear hce0 hcap0
  rw [hp] at c
  replace c : w.cell? ⟨g, i, none⟩ = some (.slice none 0 0) := c
  have f := h.blk.frozen i
  have hlt := h.blk.lt
  have HHI := Lib.hid (fun W => High_ij i j W hi hj)
  have HLO := Lib.hid (fun W => Low_ij i j W hi hj)
  have hii0 : (0 : Int) ≤ (i : Int) := by omega
  have hii1 : (i : Int) < 256 := by omega
  have hj0 : (0 : Int) ≤ (j : Int) := by omega
  have hj1 : (j : Int) < 256 := by omega
  have hnil : ∀ W : World, (binOp .eql 37 (.slice none 0 0) (.slice none 0 0)).run Try.prog W = .ok (.bool true) W := fun _ => rfl
  have hx0 : ((x.toNat : Int) == 0) = false := by
    rw [beq_eq_false_iff_ne]
    intro e
    exact hx (UInt8.toNat_inj.1 (by simpa using e))
  have hmk : ∀ u : World, (Instr.makeSlice 37 (.int .i64 256) (.int .i64 256)).run Try.prog u = .ok (.slice (some ⟨u.heap.size, 0, none⟩) 256 256) (u.alloc (.cells (madeCells #[.int .u8 0] 256) 5)) := fun u => by
    have h := run_make (P := Try.prog) u 37 5 i0 (.int .u8 0) Try.underlying37 hi' hz0 .i64 .i64 256 256 (by omega) (by omega) (by rw [hz2]; omega) (by omega)
    simpa [hz1, Value.cells] using h
  have HF := Lib.hid (h.fresh hBw i hi hp)
  have HBG := Lib.hid h.hB
  have hsz0 := h.size
  generalize ((256 * i + j : Nat) : Int) = a at *
  clear h
  go_enter Try.func87, Try.ntmps87
  go_wp2_with ((go_at_call 24; with_reducible refine (HHI.out _).mono ?_; rintro e w' ⟨rfl, rfl⟩))
  go_region
  have hF := HF.out.below (below_drewN (Below.refl _ _) 1)
  have hlt2 : g < ((w.setCell ⟨g, i, none⟩ (.slice (some ⟨w.heap.size, 0, none⟩) 256 256)).alloc (.cells (madeCells #[.int .u8 0] 256) 5)).drew.heap.size := by simp; omega
  have hOn : OnlyRam g pb w ((w.setCell ⟨g, i, none⟩ (.slice (some ⟨w.heap.size, 0, none⟩) 256 256)).alloc (.cells (madeCells #[.int .u8 0] 256) 5)).drew := by
    refine ⟨rfl, rfl, rfl, by simp, fun k hk hkg hkp => ?_⟩
    have h1 := Below.heap_alloc (w.setCell ⟨g, i, none⟩ (.slice (some ⟨w.heap.size, 0, none⟩) 256 256)) (.cells (madeCells #[.int .u8 0] 256) 5) k (by simpa using hk)
    exact h1.trans (Below.heap_setCell _ _ _ _ (fun e => hkg e))
  have hBe : Below B w ((w.setCell ⟨g, i, none⟩ (.slice (some ⟨w.heap.size, 0, none⟩) 256 256)).alloc (.cells (madeCells #[.int .u8 0] 256) 5)).drew := below_drewN (((Below.refl B w).setCell HBG.out _).alloc (by simpa using hBw) _) 1
  replace hF : RamAt B g m rom (fun k => if k = i then some w.heap.size else pb k) (cs.setIfInBounds i (pv 256 (some w.heap.size))) ((w.setCell ⟨g, i, none⟩ (.slice (some ⟨w.heap.size, 0, none⟩) 256 256)).alloc (.cells (madeCells #[.int .u8 0] 256) 5)).drew := hF
  generalize ((w.setCell ⟨g, i, none⟩ (.slice (some ⟨w.heap.size, 0, none⟩) 256 256)).alloc (.cells (madeCells #[.int .u8 0] 256) 5)).drew = w1 at *
  have c1 : w1.cell? ⟨g, i, none⟩ = some (.slice (some ⟨w.heap.size, 0, none⟩) 256 256) := by
    rw [hF.blk.cell i, Array.getElem?_setIfInBounds_self_of_lt (by rw [hsz0]; omega)]
    rfl
  obtain ⟨⟨ps, hpg, hpc⟩, hBb, hbg⟩ := hF.page i w.heap.size hi (if_pos rfl)
  have d := (hpg.cell j).trans (hpc j hj)
  clear hpc
  have f1 := hpg.frozen j
  have HP := Lib.hid (hF.poke i j w.heap.size x hi hj (if_pos rfl))
  generalize (m (256 * i + j)).toNat = y at *
  have hgb : g ≠ w.heap.size := fun e => hbg e.symm
  have hs1 := hOn.size
  clear hpg hF HF c f hmk hsz0
  go_wp2_with fail
  go_region_held3 (fun w' => w'.cell? ⟨g, i, none⟩ = some (.slice (some ⟨w.heap.size, 0, none⟩) 256 256)) (first | (go_keep; done)) (first | (go_at_call 25; with_reducible refine (HLO.out _).mono ?_; rintro e w' ⟨rfl, rfl⟩))
  all_goals
    go_wp2
    go_end0
    have hp := HP.out
    refine ⟨rfl, ?_, ?_, ?_⟩
    · first | exact hp | exact hp.below (below_drewN (Below.refl _ _) 1)
    · refine ⟨hOn.os, hOn.tape, hOn.output, by simpa using hs1, fun k hk hkg hkp => ?_⟩
      exact (Below.heap_setCell _ _ _ _ (fun e => by dsimp only at e; omega)).trans (hOn.block k hk hkg hkp)
    · exact below_drewN (hBe.setCell hBw _) 1
set_option maxRecDepth 100000 in
set_option maxHeartbeats 2000000 in
theorem Poke_zero {B g : Nat} {m : Nat → UInt8} {rom : Int} {pb : Nat → Option Nat} {cs : Array Value} (i j : Nat) (w : World) (h : RamAt B g m rom pb cs w) (hi : i < 256) (hj : j < 256) (hp : pb i = none) :
    Calls Try.prog 87 #[.pointer (some ⟨g, 0, none⟩), .int .u16 ((256 * i + j : Nat) : Int), .int .u8 0] w fun e w' => e = .returned (.tuple #[]) ∧ w = w' := by
  obtain ⟨cap0, hcap0, hce0⟩ := h.cell i hi
  have c := (h.blk.cell i).trans hce0
  clear hce0 hcap0
  rw [hp] at c
  replace c : w.cell? ⟨g, i, none⟩ = some (.slice none 0 0) := c
  have HHI := Lib.hid (fun W => High_ij i j W hi hj)
  have hii0 : (0 : Int) ≤ (i : Int) := by omega
  have hii1 : (i : Int) < 256 := by omega
  have hnil : ∀ W : World, (binOp .eql 37 (.slice none 0 0) (.slice none 0 0)).run Try.prog W = .ok (.bool true) W := fun _ => rfl
  generalize ((256 * i + j : Nat) : Int) = a at *
  clear h
  go_enter Try.func87, Try.ntmps87
  go_wp2_with ((go_at_call 24; with_reducible refine (HHI.out _).mono ?_; rintro e w' ⟨rfl, rfl⟩))
  exact bodyPost_ret (results_none rfl _ _ _) rfl ⟨rfl, rfl⟩
/-- A contract's end: memory with the bytes m'; whatever was apart from it stands as it stood, and is apart from it still. -/
structure RamStep (B g : Nat) (m' : Nat → UInt8) (rom : Int) (pb : Nat → Option Nat) (w w' : World) : Prop where
  ram : ∃ pb' cs', RamAt B g m' rom pb' cs' w' ∧ ∀ i b, i < 256 → pb' i = some b → pb i = some b ∨ w.heap.size ≤ b
  only : OnlyRam g pb w w'
  below : Below B w w'
theorem RamStep.refl {B g : Nat} {m : Nat → UInt8} {rom : Int} {pb : Nat → Option Nat} {cs : Array Value} {w : World} (h : RamAt B g m rom pb cs w) : RamStep B g m rom pb w w :=
  ⟨⟨pb, cs, h, fun _ _ _ e => .inl e⟩, ⟨rfl, rfl, rfl, Nat.le_refl _, fun _ _ _ _ => rfl⟩, Below.refl _ _⟩
theorem RamStep.trans {B g : Nat} {m' m'' : Nat → UInt8} {rom : Int} {pb : Nat → Option Nat} {w w1 w2 : World} (h1 : RamStep B g m' rom pb w w1)
    (h2 : ∀ pb' cs', RamAt B g m' rom pb' cs' w1 → RamStep B g m'' rom pb' w1 w2) : RamStep B g m'' rom pb w w2 := by
  obtain ⟨pb1, cs1, hr1, hsub⟩ := h1.ram
  obtain ⟨⟨pb2, cs2, hr2, hsub2⟩, ho2, hb2⟩ := h2 pb1 cs1 hr1
  have ho1 := h1.only
  refine ⟨⟨pb2, cs2, hr2, fun i b hi e => ?_⟩, ⟨ho2.os.trans ho1.os, ho2.tape.trans ho1.tape, ho2.output.trans ho1.output, Nat.le_trans ho1.size ho2.size, fun k hk hkg hkp => ?_⟩, h1.below.trans hb2⟩
  · rcases hsub2 i b hi e with e1 | e1
    · exact hsub i b hi e1
    · exact .inr (Nat.le_trans ho1.size e1)
  · refine (ho2.block k (Nat.lt_of_lt_of_le hk ho1.size) hkg fun i hi e => ?_).trans (ho1.block k hk hkg hkp)
    rcases hsub i k hi e with e1 | e1
    · exact hkp i hi e1
    · omega
theorem Poke_any {B g : Nat} {m : Nat → UInt8} {rom : Int} {pb : Nat → Option Nat} {cs : Array Value} (i j : Nat) (x : UInt8) (w : World) (h : RamAt B g m rom pb cs w) (hBw : B ≤ w.heap.size) (hi : i < 256) (hj : j < 256) :
    Calls Try.prog 87 #[.pointer (some ⟨g, 0, none⟩), .int .u16 ((256 * i + j : Nat) : Int), .int .u8 (x.toNat : Int)] w fun e w' => e = .returned (.tuple #[]) ∧ RamStep B g (upd m (256 * i + j) x) rom pb w w' := by
  cases hp : pb i with
  | some b =>
    refine (Poke_there i j b x w h hi hj hp).mono ?_
    rintro e w' ⟨rfl, h1, h2, h3⟩
    exact ⟨rfl, ⟨pb, cs, h1, fun _ _ _ e => .inl e⟩, h2, h3⟩
  | none =>
    by_cases hx : x = 0
    · subst hx
      refine (Poke_zero i j w h hi hj hp).mono ?_
      rintro e w' ⟨rfl, rfl⟩
      rw [upd_same m _ (h.nilp i hi hp j hj)]
      exact ⟨rfl, RamStep.refl h⟩
    · refine (Poke_none i j x w h hBw hi hj hp hx).mono ?_
      rintro e w' ⟨rfl, h1, h2, h3⟩
      refine ⟨rfl, ⟨_, _, h1, fun k b hk e => ?_⟩, h2, h3⟩
      split at e
      · right
        have := Option.some.inj e
        omega
      · exact .inl e
end Go.Proofs.Ytgebopmiefgdoaa

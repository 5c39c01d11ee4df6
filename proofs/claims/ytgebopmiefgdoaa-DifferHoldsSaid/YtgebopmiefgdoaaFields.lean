/-
  Contracts of differ.Fields (what two records differ in) and differ.side.
-/
import Derived.Test.YtgebopmiefgdoaaRecLines
import Derived.Test.YtgebopmiefgdoaaEqRec
namespace Go.Proofs.Ytgebopmiefgdoaa
open Go.RowKit
theorem info_str : (Try.prog.info? 9).map (fun i => (i.zero, i.size, i.bytes)) = some (some (.string ByteArray.empty), 1, 16) := by kernel_rfl
def strsV (l : List ByteArray) : List Value := l.map Value.string
/-- Block g holds a slice of strings of the call's own. -/
def OutAt (B g : Nat) (l : List ByteArray) (w : World) : Prop :=
  ∃ v, Blk w g 177 #[v] ∧ w.ownsRow B 9 1 v l.length (strsV l) ∧ v.ownBlock ≠ some g ∧ B ≤ g
theorem OutAt.below {B g : Nat} {l : List ByteArray} {w w' : World} (h : OutAt B g l w) (hb : Below w.heap.size w w') : OutAt B g l w' := by
  obtain ⟨v, h1, h2, h3, h4⟩ := h
  exact ⟨v, h1.below hb h1.lt, own_below h2 hb, h3, h4⟩
set_option maxRecDepth 100000 in
set_option maxHeartbeats 4000000 in
theorem note_any (B g : Nat) (l : List ByteArray) (s : ByteArray) (u : Bool) (w : World) (hO : OutAt B g l w) (hB : B ≤ w.heap.size) (hl : l.length ≤ 100) :
    Calls Try.prog 126 #[.string s, .bool u, .pointer (some ⟨g, 0, none⟩)] w fun e w' => e = .returned (.tuple #[]) ∧ OutAt B g (l ++ if u then [s] else []) w' ∧ Below B w w' := by
  obtain ⟨i0, hi, hz0, hz1, hz2⟩ := info_parts info_str
  cases u
  · go_enter Try.func126, Try.ntmps126
    go_wp2
    go_end0
    refine ⟨rfl, ?_, Below.refl _ _⟩
    simpa using hO
  · obtain ⟨v, hblk, hown, hne, hBg⟩ := hO
    have c0 := hblk.cell 0
    simp only [List.getElem?_toArray, List.getElem?_cons_zero] at c0
    have hlt := hblk.lt
    go_enter Try.func126, Try.ntmps126
    go_wp2_with (at_builtin; refine wpList_append_any _ rfl (.tmp 6) (.tmp 8) 177 rfl B 9 i0 (.string ByteArray.empty) 1 16 Try.underlying177 hi hz0 hz1 hz2 rfl (by omega) v l.length (strsV l) rfl (hown.alloc _) (w.heap.size + 1) (some ⟨w.heap.size, 0, none⟩) 1 1 [.string s] rfl (Reads.new1 w _ _ 1 _ rfl (Nat.lt_succ_self _)) (by simp [Value.oneCell']) (by simp only [maxLen]; omega) (by omega) (Nat.le_trans hB (by simp)) ?_; intro v1 w1 hown1 hg1 hat1; obtain ⟨A1, c1, rfl, hr1, hn1, hm1⟩ := own_reads hown1; have hbk := (hblk.alloc _).grown hg1 (fun e => hne e.symm); have d0 := hbk.cell 0; have f0 := hbk.frozen 0)
    go_end0
    have hne1 : (Value.slice A1 (l.length + 1) c1).ownBlock ≠ some g := by
      rcases hat1 with h | h
      · rw [h]; exact hne
      · rw [h]; simp; omega
    refine ⟨rfl, ⟨_, hbk.set_ 0 _, ?_, hne1, hBg⟩, ?_⟩
    · have hk := hown1.kept (row := some g) (w' := w1.setCell ⟨g, 0, none⟩ (.slice A1 (l.length + 1) c1)) ⟨rfl, rfl, rfl, by simp [World.setCell], fun k _ hk => Below.heap_setCell _ _ _ _ (fun e => hk (by simp [e]))⟩ (Or.inr hne1)
      simpa [strsV] using hk
    · exact (below_own (w := w.alloc _) ((Below.refl B w).alloc hB _) (hown.alloc _) hg1 (Nat.le_trans hB (by simp))).setCell hBg _
end Go.Proofs.Ytgebopmiefgdoaa

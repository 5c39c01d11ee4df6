/-
  Contracts: slices.Clone at []int, queue.Of, and the law's example.
-/
import Derived.Test.YtgebopmiefgdoaaQueue2
import Derived.Test.YtgebopmiefgdoaaEqInt
namespace Go.Proofs.Ytgebopmiefgdoaa
open Go.RowKit
def intsV (l : List Int) : List Value := l.map (Value.int .i64)
theorem intsV_one (l : List Int) : ∀ u ∈ intsV l, u.oneCell' = true := by
  intro u hu
  obtain ⟨c, _, rfl⟩ := List.mem_map.1 hu
  rfl
set_option maxRecDepth 100000 in
set_option maxHeartbeats 2000000 in
theorem Clone_any (xs : List Int) (A : Option Addr) (n c B : Nat) (w : World) (hr : Reads w B 1 A n (intsV xs)) (hB : B ≤ w.heap.size) (hn : n ≤ 4294967296) :
    Calls Try.prog 62 #[.slice A n c] w fun e w' => ∃ v, e = .returned v ∧ w'.ownsRow w.heap.size 3 1 v n (intsV xs) ∧ Below w.heap.size w w' := by
  obtain ⟨i0, hi, hz0, hz1, hz2⟩ := info_parts info_int
  rcases A with _ | ad
  · obtain rfl : n = 0 := by
      rcases Nat.eq_zero_or_pos n with h | h
      · exact h
      · obtain ⟨ad, e, _⟩ := hr.2 h
        cases e
    have hx : intsV xs = [] := List.eq_nil_of_length_eq_zero (by simpa using hr.1)
    rw [hx]
    have he : ∀ W : World, (binOp .eql 83 (.slice none 0 c) (.slice none 0 0)).run Try.prog W = .ok (.bool true) W := fun _ => rfl
    go_enter Try.func62, Try.ntmps62
    go_wp2
    go_ret
    exact ⟨_, rfl, own_nil _ _ _ _, Below.refl _ _⟩
  · have hone := intsV_one xs
    have he : ∀ W : World, (binOp .eql 83 (.slice (some ad) n c) (.slice none 0 0)).run Try.prog W = .ok (.bool false) W := fun _ => rfl
    have hr' : Reads (w.alloc (.cells #[] 3)) B 1 (some ad) n (intsV xs) := hr.keep fun p hp => Below.cell (B := w.heap.size) ((Below.refl _ w).alloc (Nat.le_refl _) _) (by omega)
    have hown : (w.alloc (.cells #[] 3)).ownsRow w.heap.size 3 1 (.slice (some ⟨w.heap.size, 0, none⟩) 0 0) 0 [] := World.ownsRow_made w #[] 0 (Nat.le_refl _) (by simp [maxLen]) rfl
    go_enter Try.func62, Try.ntmps62
    go_wp2_with (first | (at_builtin; refine wpList_append_any _ rfl (.tmp 5) (.tmp 6) 83 rfl w.heap.size 3 i0 (.int .i64 0) 1 8 Try.underlying83 hi hz0 hz1 hz2 rfl (by omega) _ 0 [] rfl hown B (some ad) n c (intsV xs) rfl hr' hone (by simp only [maxLen]; omega) (by omega) (by simp) ?_; intro v1 w1 hown1 hg1 hat1))
    go_ret
    refine ⟨_, rfl, by simpa using hown1, below_own ((Below.refl _ w).alloc (Nat.le_refl _) _) hown hg1 (by simp)⟩
theorem QAll_n (g : Nat) (cs : Array Value) (l : List Int) (a n : Nat) (w : World) (hb : Blk w g 152 cs) (hq : QOf cs l a) (hn : l.length = n) :
    Calls Try.prog 70 #[.pointer (some ⟨g, 0, none⟩)] w fun e w' => ∃ A c, e = .returned (.slice A n c) ∧ Reads w' w'.heap.size 1 A n (intsV l) ∧ Below w.heap.size w w' := by
  subst hn
  exact QAll_any g cs l a w hb hq
theorem QLen_n (g : Nat) (cs : Array Value) (l : List Int) (a n : Nat) (w : World) (hb : Blk w g 152 cs) (hq : QOf cs l a) (hn : l.length = n) :
    Calls Try.prog 68 #[.pointer (some ⟨g, 0, none⟩)] w fun e w' => e = .returned (.int .i64 (n : Int)) ∧ Below w.heap.size w w' := by
  subst hn
  exact QLen_any g cs l a w hb hq
theorem EqSame (xs : List Int) (A A2 : Option Addr) (n c c2 B B2 : Nat) (w : World) (hr : Reads w B 1 A n (intsV xs)) (hr2 : Reads w B2 1 A2 n (intsV xs)) (hn : n ≤ 24) :
    Calls Try.prog 69 #[.slice A n c, .slice A2 n c2] w fun e w' => e = .returned (.bool true) ∧ Below w.heap.size w w' := by
  have h := EqInt_any xs xs A A2 n c n c2 B B2 w hr hr2 (by omega) (by omega)
  rw [decide_eq_true (rfl : xs = xs)] at h
  exact h
def q0 : Array Value := #[.int .i64 0, .int .i64 0, .int .i64 0, .int .i64 0, .int .i64 0, .int .i64 0, .int .i64 0, .int .i64 0, .int .i64 0, .int .i64 0, .int .i64 0, .int .i64 0, .int .i64 0, .int .i64 0, .int .i64 0, .int .i64 0, .int .i64 0, .int .i64 0, .int .i64 0, .int .i64 0, .int .i64 0, .int .i64 0, .int .i64 0, .int .i64 0, .int .i64 0, .int .i64 0]
theorem QOf.q0 : QOf q0 [] 0 := ⟨by rfl, by omega, by simp, by rfl, by rfl, by simp⟩
set_option maxRecDepth 100000 in
set_option maxHeartbeats 2000000 in
theorem Of_any (xs : List Int) (A : Option Addr) (n c B : Nat) (w : World) (hr : Reads w B 1 A n (intsV xs)) (hB : B ≤ w.heap.size) (hn : n ≤ 4611686018427387904) :
    Calls Try.prog 60 #[.slice A n c] w fun e w' => Below w.heap.size w w' ∧ (if n ≤ 24 then e = .returned (.tuple #[.pointer (some ⟨w.heap.size, 0, none⟩), .bool true]) ∧ ∃ cs a, Blk w' w.heap.size 152 cs ∧ QOf cs xs a
      else e = .returned (.tuple #[.pointer none, .bool false])) := by
  have hxl : xs.length = n := by simpa [intsV] using hr.1
  have hP : Hid (∀ W : World, Blk W w.heap.size 152 q0 → Reads W B 1 A n (intsV xs) → B ≤ W.heap.size → Calls Try.prog 66 #[.pointer (some ⟨w.heap.size, 0, none⟩), .slice A n c] W fun e w' => e = .returned (.bool (decide (n ≤ 24))) ∧ W.grownBy w' (some w.heap.size) ∧
      ∃ cs', Blk w' w.heap.size 152 cs' ∧ QOf cs' (if n ≤ 24 then xs else []) 0) := fun W h1 h2 h3 => by
    have h := Push_any w.heap.size q0 [] xs 0 A n c B W h1 QOf.q0 h2 h3 (fun h0 ad e => by
        obtain ⟨ad', e', hb', _⟩ := h2.2 h0
        rw [e] at e'
        injection e' with e'
        subst e'
        omega) hn
    simp only [List.length_nil, Nat.zero_add, List.nil_append, hxl] at h
    exact h
  by_cases hf : n ≤ 24
  · simp only [if_pos hf]
    simp only [decide_eq_true hf, if_pos hf] at hP
    have hrA : Reads (w.alloc (.cells q0 152)) B 1 A n (intsV xs) := hr.keep fun p hp => Below.cell (B := w.heap.size) ((Below.refl _ w).alloc (Nat.le_refl _) _) (by omega)
    go_enter Try.func60, Try.ntmps60
    go_wp2_with (go_at_call 66; refine (hP.out _ (Blk.new w _ _) hrA (by simp; omega)).mono ?_; rintro e w1 ⟨rfl, hg1, cs1, hb1, hq1⟩)
    go_ret2
    exact ⟨Below.grown ((Below.refl _ w).alloc (Nat.le_refl _) _) hg1 (by simp) (fun k hk => by injection hk with hk; omega), rfl, cs1, 0, hb1, hq1⟩
  · simp only [if_neg hf]
    simp only [decide_eq_false hf, if_neg hf] at hP
    have hrA : Reads (w.alloc (.cells q0 152)) B 1 A n (intsV xs) := hr.keep fun p hp => Below.cell (B := w.heap.size) ((Below.refl _ w).alloc (Nat.le_refl _) _) (by omega)
    go_enter Try.func60, Try.ntmps60
    go_wp2_with (go_at_call 66; refine (hP.out _ (Blk.new w _ _) hrA (by simp; omega)).mono ?_; rintro e w1 ⟨rfl, hg1, cs1, hb1, hq1⟩)
    go_ret2
    exact ⟨Below.grown ((Below.refl _ w).alloc (Nat.le_refl _) _) hg1 (by simp) (fun k hk => by injection hk with hk; omega), rfl⟩
set_option maxRecDepth 100000 in
set_option maxHeartbeats 2000000 in
theorem alive21 (w : World) :
    Calls Try.prog 61 #[] w fun e w' => e = .returned (.bool true) ∧ Below w.heap.size w w' := by
  go_enter Try.func61, Try.ntmps61
  go_wp2_with fail
  refine (Push_any w.heap.size q0 [] [3] 0 (some ⟨w.heap.size + 1, 0, none⟩) 1 1 (w.heap.size + 2) _ ((Blk.new w _ _).alloc _) QOf.q0 (by simpa using Reads.new1 (w.alloc (.cells q0 152)) 3 #[.int .i64 3] 1 (w.heap.size + 2) rfl (by simp)) (by simp) (fun _ ad e => by injection e with e; subst e; simp) (by omega)).mono ?_
  rintro e w1 ⟨rfl, hg1, cs1, hb1, hq1⟩
  have hq1 : QOf cs1 [3] 0 := hq1
  have hz1 := hg1.size
  have hz1' : w.heap.size + 2 ≤ w1.heap.size := by simpa using hz1
  go_wp2_with fail
  refine (Front_any w.heap.size cs1 [3] [1, 2] 0 (some ⟨w1.heap.size, 0, none⟩) 2 2 (w1.heap.size + 1) _ (hb1.alloc _) hq1 (by simpa using Reads.new1 w1 3 #[.int .i64 1, .int .i64 2] 2 (w1.heap.size + 1) rfl (by simp)) (by simp) (fun _ ad e => by injection e with e; subst e; simp; omega) (by omega)).mono ?_
  rintro e w2 ⟨rfl, hg2, cs2, a2, hb2, hq2⟩
  have hq2 : QOf cs2 [1, 2, 3] a2 := hq2
  have hz2 := hg2.size
  have hz2' : w1.heap.size + 1 ≤ w2.heap.size := by simpa using hz2
  go_wp2_with fail
  refine (QAll_any w.heap.size cs2 [1, 2, 3] a2 w2 hb2 hq2).mono ?_
  rintro e w3 ⟨A3, c3, rfl, hr3, hbw⟩
  have hz3 := hbw.size
  go_wp2_with fail
  refine (EqInt_any [1, 2, 3] [1, 2, 3] A3 (some ⟨w3.heap.size, 0, none⟩) 3 c3 3 3 w3.heap.size (w3.heap.size + 1) _ (hr3.keep fun p hp => Below.cell (B := w3.heap.size) ((Below.refl _ w3).alloc (Nat.le_refl _) _) hp) (by simpa using Reads.new1 w3 3 #[.int .i64 1, .int .i64 2, .int .i64 3] 3 (w3.heap.size + 1) rfl (by simp)) (by omega) (by omega)).mono ?_
  rintro e w4 ⟨rfl, hb4⟩
  go_wp2_with fail
  go_ret
  have s1 : Below w.heap.size w w1 := Below.grown (((Below.refl _ w).alloc (Nat.le_refl _) _).alloc (by simp) _) hg1 (by simp; omega) (fun k hk => by injection hk with hk; omega)
  have s2 : Below w.heap.size w w2 := Below.grown (s1.alloc s1.size _) hg2 (by simp; omega) (fun k hk => by injection hk with hk; omega)
  have s3 := s2.trans (hbw.mono s2.size)
  have s4 := below_alloc s3 (Obj.cells #[.int .i64 1, .int .i64 2, .int .i64 3] 3)
  exact ⟨by simp, below_then s4 hb4⟩
end Go.Proofs.Ytgebopmiefgdoaa

/-
  The walk of the law EdgeKept: for every row of levels it returns true. The plain law: behind a row of levels the latch is set just if it was armed and the level rose.
-/
import Derived.Test.YtgebopmiefgdoaaEdge
import Derived.Test.YtgebopmiefgdoaaDec
import Derived.WalkKit
import Derived.WalkSpells
import Derived.KernelRfl
import Derived.Deep.Draws
import Derived.RowKit3
import Derived.Lib.Hide
namespace Go.Proofs.Ytgebopmiefgdoaa
open Go.RowKit
def risesF (p : Nat × Bool) (x : Bool) : Nat × Bool := (if x && !p.2 then p.1 + 1 else p.1, x)
theorem kept_law (a : Bool) : ∀ (l : List Bool) (p : Nat × Bool), l.foldl sampleF (p.2, a, a && decide (0 < p.1)) = ((l.foldl risesF p).2, a, a && decide (0 < (l.foldl risesF p).1))
  | [], p => rfl
  | x :: l, p => by
    have e : sampleF (p.2, a, a && decide (0 < p.1)) x = ((risesF p x).2, a, a && decide (0 < (risesF p x).1)) := by
      obtain ⟨n, q⟩ := p
      cases a <;> cases x <;> cases q <;> simp [sampleF, risesF]
    rw [List.foldl_cons, List.foldl_cons, e]
    exact kept_law a l (risesF p x)
theorem rises_le : ∀ (l : List Bool) (p : Nat × Bool), (l.foldl risesF p).1 ≤ p.1 + l.length
  | [], p => by simp
  | x :: l, p => by
    have h := rises_le l (risesF p x)
    have h2 : (risesF p x).1 ≤ p.1 + 1 := by unfold risesF; dsimp only; split <;> omega
    simp only [List.foldl_cons, List.length_cons]
    omega
set_option maxHeartbeats 1000000 in
theorem EdgeKept_walk (w : World) (armed first : Bool) (s : Sl Bool) (g : s.Good w 1 boolCell boolGood) :
    Calls Try.prog 5 #[.bool armed, .bool first, s.v] w fun e w' => e = .returned (.bool true) ∧ Below w.heap.size w w' := by
  obtain ⟨A, n, c, l⟩ := s
  obtain ⟨hnc, hcm, hr, hlen, _⟩ := g
  dsimp only [Sl.v] at *
  unfold maxLen at hcm
  have hr' : Reads w w.heap.size 1 A n (l.map Value.bool) := by rw [← flat_one]; exact hr
  have HLN := Lib.hid hlen
  clear hlen hr
  by_cases hbig : 200 < n
  · go_enter Try.func5, Try.ntmps5
    go_wp2
    go_ret
    exact ⟨rfl, Below.refl _ _⟩
  · go_enter Try.func5, Try.ntmps5
    go_wp2
    go_loop [7, 8, 9] (fun e b i => ∃ k : Nat, k ≤ n ∧ i = .int .i64 k ∧ e = .int .i64 ((l.take k).foldl risesF (0, first)).1 ∧ b = .bool ((l.take k).foldl risesF (0, first)).2) (fun _ _ i => n - (intOf i).toNat)
    case atStart => exact ⟨0, Nat.zero_le _, rfl, rfl, rfl⟩
    case round =>
      obtain ⟨k, hk, rfl, rfl, rfl⟩ := hrel
      have hle := rises_le (l.take k) (0, first)
      have hl2 : (l.take k).length ≤ k := List.length_take_le _ _
      by_cases hlt : k < n
      · obtain ⟨ad, u, rfl, hab, hu, hcell⟩ := hr'.at_ hlt
        rw [List.getElem?_map] at hu
        obtain ⟨x, hx, rfl⟩ := Option.map_eq_some_iff.1 hu
        have HX := Lib.hid hx
        clear hx hu
        generalize hp : (l.take k).foldl risesF (0, first) = p at *
        have HP := Lib.hid hp
        clear hp
        obtain ⟨m, q⟩ := p
        dsimp only at *
        go_wp2
        all_goals
          have hfs := fold_snoc risesF (0, first) l k x HX.out
          rw [HP.out] at hfs
          go_round
          case rel =>
            refine ⟨k + 1, by omega, by go_num, ?_, ?_⟩
            · rw [hfs]; simp_all [risesF]
            · rw [hfs]; simp_all [risesF]
          case measure => simp [intOf]; omega
      · obtain rfl : k = n := by omega
        have hall : l.take k = l := List.take_of_length_le (by rw [HLN.out]; exact Nat.le_refl _)
        rw [hall] at *
        clear hall
        have hkl := kept_law armed l (0, first)
        have hkl' : l.foldl sampleF (first, armed, false) = ((l.foldl risesF (0, first)).2, armed, armed && decide (0 < (l.foldl risesF (0, first)).1)) := by simpa using hkl
        clear hkl
        have HK := Lib.hid hkl'
        clear hkl'
        generalize l.foldl risesF (0, first) = p at *
        obtain ⟨m, q⟩ := p
        dsimp only at *
        go_wp2_with (first | (go_at_call 26; refine (All_any (first, armed, false) l A c k w.heap.size _ (Nat.le_refl _) hr' (by omega)).mono ?_; rintro e w1 ⟨rfl, hb⟩; rw [HK.out]) | (go_at_call 27; refine (alive28 _).mono ?_; rintro e w1 ⟨rfl, hb⟩))
        all_goals
          go_ret
          exact ⟨rfl, by repeat (first | exact Below.refl _ _ | (refine below_then ?_ (by assumption)))⟩
end Go.Proofs.Ytgebopmiefgdoaa

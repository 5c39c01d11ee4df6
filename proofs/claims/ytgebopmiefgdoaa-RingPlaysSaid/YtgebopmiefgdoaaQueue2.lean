/-
  Contracts of queue.Queue[int]: Pop, Front, All, Of; slices.Clone.
-/
import Derived.Test.YtgebopmiefgdoaaQueue
namespace Go.Proofs.Ytgebopmiefgdoaa
open Go.RowKit
theorem info_int : (Try.prog.info? 3).map (fun i => (i.zero, i.size, i.bytes)) = some (some (.int .i64 0), 1, 8) := by kernel_rfl
set_option maxRecDepth 100000 in
set_option maxHeartbeats 2000000 in
theorem Pop_any (g : Nat) (cs : Array Value) (l : List Int) (a : Nat) (w : World) (hb : Blk w g 152 cs) (hq : QOf cs l a) :
    Calls Try.prog 64 #[.pointer (some ⟨g, 0, none⟩)] w fun e w' => e = .returned (.tuple #[.int .i64 (headI l), .bool (!l.isEmpty)]) ∧ w.grownBy w' (some g) ∧
      ∃ cs' a', Blk w' g 152 cs' ∧ QOf cs' l.tail a' := by
  have HP : Hid (∀ W : World, Blk W g 152 cs → Calls Try.prog 67 #[.pointer (some ⟨g, 0, none⟩)] W fun e w' => e = .returned (.tuple #[.int .i64 (headI l), .bool (!l.isEmpty)]) ∧ Below W.heap.size W w') := fun W h => Peek_any g cs l a W h hq
  rcases l with _ | ⟨x, l⟩
  · go_enter Try.func64, Try.ntmps64
    go_wp2_with (go_at_call 67; refine (HP.out _ hb).mono ?_; rintro e w1 ⟨rfl, hb1⟩)
    go_ret2
    exact ⟨rfl, grown_below (World.grownBy.refl w _) hb1, cs, a, hb.below hb1 hb.lt, hq⟩
  · have ha := hq.ha
    have HQ := Lib.hid hq.pop
    have hlen : (x :: l).length = l.length + 1 := rfl
    have hl := hq.hl
    have w1' : IntKind.i64.wrap ((a : Int) + 1) = (a : Int) + 1 := i64_in _ (by omega) (by omega)
    have ht : Int.tmod ((a : Int) + 1) 24 = (((a + 1) % 24 : Nat) : Int) := by rw [Int.tmod_eq_emod_of_nonneg (by omega)]; omega
    have ha1 : (0 : Int) ≤ (a : Int) := by omega
    have ha2 : (a : Int) < 24 := by omega
    have hi1 : (24 : Nat) ≠ a := by omega
    have hi2 : (25 : Nat) ≠ a := by omega
    have HB := Lib.hid hb
    have hn : cs[25]? = some (.int .i64 ((l.length : Int) + 1)) := hq.n_
    have hat := hq.at_
    obtain ⟨u, hu⟩ := hq.cell a (by omega)
    have hLb : l.length ≤ 24 := by omega
    have hwL := i64_in (l.length : Int) (by omega) (by omega)
    generalize hL : l.length = L at *
    clear hq hlen hL
    go_enter Try.func64, Try.ntmps64
    go_wp2_with (go_at_call 67; refine (HP.out _ hb).mono ?_; rintro e w1 ⟨rfl, hb1⟩; have hb' := hb.below hb1 hb.lt; have d24 := (hb'.cell 24).trans hat; have d25 := (hb'.cell 25).trans hn; have du := (hb'.cell _).trans hu; have hz := hb'.frozen)
    go_region_held3 (fun w' => w'.cell? ⟨g, 24, none⟩ = some (.int .i64 a) ∧ w'.cell? ⟨g, 25, none⟩ = some (.int .i64 ((L : Int) + 1))) (first | (go_keep; done) | exact ⟨(set_far _ _ _ _ _ hi1).trans d24, (set_far _ _ _ _ _ hi2).trans d25⟩) (fail)
    go_wp2
    have hq' := HQ.out
    rw [show ((((a + 1) % 24 : Nat)) : Int) = ((a : Int) + 1) % 24 from by omega] at hq'
    go_ret2
    refine ⟨rfl, grown_drew w (grown_set w (grown_set w (grown_set w (grown_below (World.grownBy.refl w _) hb1) _ _) _ _) _ _), _, (a + 1) % 24, (((hb'.set_ _ _).set_ _ _).set_ _ _).drew, ?_⟩
    first
      | exact hq'
      | (rw [show wrap64 (L : Int) = (L : Int) from by unfold wrap64; omega]; exact hq')
set_option maxRecDepth 100000 in
set_option maxHeartbeats 2000000 in
theorem Front_any (g : Nat) (cs : Array Value) (l xs : List Int) (a : Nat) (A : Option Addr) (n c B : Nat) (w : World) (hb : Blk w g 152 cs) (hq : QOf cs l a)
    (hr : Reads w B 1 A n (xs.map (Value.int .i64))) (hB : B ≤ w.heap.size) (hne : 0 < n → ∀ ad, A = some ad → ad.block ≠ g) (hn : n ≤ 4611686018427387904) :
    Calls Try.prog 63 #[.pointer (some ⟨g, 0, none⟩), .slice A n c] w fun e w' => e = .returned (.bool (decide (l.length + xs.length ≤ 24))) ∧ w.grownBy w' (some g) ∧
      ∃ cs' a', Blk w' g 152 cs' ∧ QOf cs' (if l.length + xs.length ≤ 24 then xs ++ l else l) a' := by
  have hxl : xs.length = n := by simpa using hr.1
  have c24 := (hb.cell 24).trans hq.at_
  have c25 := (hb.cell 25).trans hq.n_
  have hl := hq.hl
  by_cases hfit : l.length + xs.length ≤ 24
  · rw [decide_eq_true hfit, if_pos hfit]
    have hln : l.length + n ≤ 24 := by omega
    have HX := Lib.hid hxl
    clear hxl hfit
    go_enter Try.func63, Try.ntmps63
    go_wp2
    go_loopw [5] (fun i wr => ∃ k : Nat, k ≤ n ∧ i = .int .i64 ((k : Int) - 1) ∧ w.grownBy wr (some g) ∧ ∃ cs' a', Blk wr g 152 cs' ∧ QOf cs' (xs.drop k ++ l) a') (fun i _ => (intOf i + 1).toNat)
    case atStart => exact ⟨n, by omega, by go_num, World.grownBy.refl w _, cs, a, hb, by rw [List.drop_of_length_le (by rw [HX.out]; exact Nat.le_refl _)]; exact hq⟩
    case round =>
      obtain ⟨k, hk, rfl, hg, cs', a', hb', hq'⟩ := hrel
      rcases k with _ | k
      · go_wp2
        go_ret
        exact ⟨rfl, hg, cs', a', hb', by simpa using hq'⟩
      · rw [show (((k + 1 : Nat) : Int) - 1) = (k : Int) from by omega]
        have hr' := hr.grown_ hg hne hB
        obtain ⟨ad, x, rfl, hab, hx, hcell⟩ := ints_at hr' (show k < n by omega)
        have hlk : (xs.drop (k + 1) ++ l).length = n - (k + 1) + l.length := by simp [HX.out]
        have d24 := (hb'.cell 24).trans hq'.at_
        have d25 := (hb'.cell 25).trans hq'.n_
        have ha := hq'.ha
        obtain ⟨u, hu⟩ := hq'.cell ((a' + 23) % 24) (by omega)
        have du := (hb'.cell _).trans hu
        have hz := hb'.frozen
        have HQ := Lib.hid (hq'.front x (by omega))
        have hT : xs.drop k ++ l = x :: (xs.drop (k + 1) ++ l) := by
          obtain ⟨h1, rfl⟩ := List.getElem?_eq_some_iff.1 hx
          rw [List.drop_eq_getElem_cons h1]; rfl
        have HT := Lib.hid hT
        generalize hm : (xs.drop (k + 1) ++ l).length = m at *
        have hm' : m < 24 := by omega
        have hj : (a' + 23) % 24 < 24 := Nat.mod_lt _ (by omega)
        have hj3 : Int.tmod ((a' : Int) + 23) 24 = (((a' + 23) % 24 : Nat) : Int) := by rw [Int.tmod_eq_emod_of_nonneg (by omega)]; omega
        have hj4 : ((a' : Int) + 24 - 1) % 24 = (((a' + 23) % 24 : Nat) : Int) := by omega
        have HJ := Lib.hid hj4
        generalize (a' + 23) % 24 = j at *
        have hi1 : (24 : Nat) ≠ j := by omega
        have hi2 : (25 : Nat) ≠ j := by omega
        have hj0 : (0 : Int) ≤ (j : Int) := by omega
        have hj1 : (j : Int) < 24 := by omega
        clear hu hq' hr' hr hq c24 c25 hb hx hm hlk hT
        have hne2 : (ad.add k).block ≠ g := by rw [block_of_add]; exact hne (by omega) ad rfl
        have h26 := HQ.out.size
        have hsz : cs'.size = 26 := by simpa using h26
        obtain ⟨W, hW⟩ : ∃ W, W = wr.setCell ⟨g, 24, none⟩ (.int .i64 j) := ⟨_, rfl⟩
        have hbW : Blk W g 152 (cs'.setIfInBounds 24 (.int .i64 j)) := by rw [hW]; exact hb'.set_ _ _
        have hgW : w.grownBy W (some g) := by rw [hW]; exact grown_set w hg _ _
        have f24 : W.cell? ⟨g, 24, none⟩ = some (.int .i64 j) := by rw [hbW.cell, Array.getElem?_setIfInBounds_self, if_pos (by omega)]
        have f25 : W.cell? ⟨g, 25, none⟩ = some (.int .i64 m) := by rw [hW, set_far _ _ _ _ _ (by decide)]; exact d25
        have fj : W.cell? ⟨g, j, none⟩ = some u := by rw [hW, set_far _ _ _ _ _ (Ne.symm hi1)]; exact du
        have fad : W.cell? (ad.add k) = some (.int .i64 x) := by
          rw [hW]
          refine Eq.trans ?_ hcell
          apply World.cell?_setCell_other
          intro e
          exact hne2 (by rw [← e])
        have fz := hbW.frozen
        have HW := Lib.hid hW
        go_wp2
        rw [← HW.out]
        clear hW HW hcell du d24 d25 hz hb' hg hj3 HJ
        have k0 : (0 : Int) ≤ (k : Int) := by omega
        have k1 : (k : Int) < (n : Int) := by omega
        have fad2 : (W.setCell ⟨g, j, none⟩ (.int .i64 x)).cell? (ad.add k) = some (.int .i64 x) := by
          refine Eq.trans ?_ fad
          apply World.cell?_setCell_other
          intro e
          exact hne2 (by rw [← e])
        go_region_held3 (fun w' => w'.cell? ⟨g, 24, none⟩ = some (.int .i64 j) ∧ w'.cell? ⟨g, 25, none⟩ = some (.int .i64 m) ∧ w'.cell? (ad.add k) = some (.int .i64 x)) (first | (go_keep; done) | exact ⟨(set_far _ _ _ _ _ hi1).trans f24, (set_far _ _ _ _ _ hi2).trans f25, fad2⟩) (fail)
        go_wp2
        go_roundw
        case rel =>
          refine ⟨k, by omega, by go_num, grown_drew w (grown_set w (grown_set w hgW _ _) _ _), _, j, ((hbW.set_ _ _).set_ _ _).drew, ?_⟩
          rw [HT.out]
          exact HQ.out
        case measure => first | (simp [intOf]; done) | (simp [intOf]; omega)
  · rw [decide_eq_false hfit, if_neg hfit]
    have hln : ¬ l.length + n ≤ 24 := by omega
    clear hfit
    go_enter Try.func63, Try.ntmps63
    go_wp2
    go_ret
    exact ⟨rfl, World.grownBy.refl w _, cs, a, hb, hq⟩
set_option maxRecDepth 100000 in
set_option maxHeartbeats 2000000 in
theorem QAll_any (g : Nat) (cs : Array Value) (l : List Int) (a : Nat) (w : World) (hb : Blk w g 152 cs) (hq : QOf cs l a) :
    Calls Try.prog 70 #[.pointer (some ⟨g, 0, none⟩)] w fun e w' => ∃ A c, e = .returned (.slice A l.length c) ∧ Reads w' w'.heap.size 1 A l.length (l.map (Value.int .i64)) ∧ Below w.heap.size w w' := by
  obtain ⟨i0, hi, hz0, hz1, hz2⟩ := info_parts info_int
  have c24 := (hb.cell 24).trans hq.at_
  have c25 := (hb.cell 25).trans hq.n_
  have hl := hq.hl
  have ha := hq.ha
  have hlt := hb.lt
  go_enter Try.func70, Try.ntmps70
  go_wp2
  go_loopw [3, 9] (fun v i wr => ∃ k : Nat, k ≤ l.length ∧ i = .int .i64 k ∧ wr.ownsRow w.heap.size 3 1 v k ((l.take k).map (Value.int .i64)) ∧ Below w.heap.size w wr) (fun _ i _ => l.length - (intOf i).toNat)
  case atStart => exact ⟨0, by omega, rfl, own_nil _ _ _ _, Below.refl _ _⟩
  case round =>
    obtain ⟨k, hk, rfl, hown, hbl⟩ := hrel
    by_cases hkl : k < l.length
    · obtain ⟨x, hx⟩ : ∃ x, l[k]? = some x := ⟨_, List.getElem?_eq_getElem hkl⟩
      have hb' := hb.below hbl hlt
      have d24 := (hb'.cell 24).trans hq.at_
      have dk := (hb'.cell _).trans (hq.get k x hx)
      have hw : IntKind.i64.wrap ((a : Int) + k) = (a : Int) + k := i64_in _ (by omega) (by omega)
      have ht : Int.tmod ((a : Int) + k) 24 = (((a + k) % 24 : Nat) : Int) := by rw [Int.tmod_eq_emod_of_nonneg (by omega)]; omega
      have hwt : IntKind.i64.wrap (((a + k) % 24 : Nat) : Int) = (((a + k) % 24 : Nat) : Int) := i64_in _ (by omega) (by omega)
      have hj : (a + k) % 24 < 24 := Nat.mod_lt _ (by omega)
      generalize (a + k) % 24 = j at *
      have hj0 : (0 : Int) ≤ (j : Int) := by omega
      have hj1 : (j : Int) < 24 := by omega
      have hT : (l.take (k + 1)).map (Value.int .i64) = (l.take k).map (Value.int .i64) ++ [.int .i64 x] := by
        obtain ⟨h1, rfl⟩ := List.getElem?_eq_some_iff.1 hx
        rw [List.take_succ_eq_append_getElem h1, List.map_append]; rfl
      have HT := Lib.hid hT
      have hbs := hbl.size
      have hnew : Reads (wr.drew.alloc (.cells #[.int .i64 x] 3)) (wr.heap.size + 1) 1 (some ⟨wr.heap.size, 0, none⟩) 1 [.int .i64 x] := Reads.new1 wr.drew _ _ 1 _ rfl (Nat.lt_succ_self _)
      have hone : ∀ u ∈ [Value.int .i64 x], u.oneCell' = true := by simp [Value.oneCell']
      have hgne : g ≠ wr.heap.size := by omega
      clear hx hT hq hb c24 c25
      go_wp2
      go_region_held3 (fun w' => w'.cell? ⟨g, 24, none⟩ = some (.int .i64 a) ∧ w'.cell? ⟨g, j, none⟩ = some (.int .i64 x)) (first | (go_keep; done) | exact ⟨(own_cell (World.ownsRow.alloc (w := wr.drew) hown _) hg1 (Nat.le_trans hbs (by simp)) hlt).trans (by go_keep), (own_cell (World.ownsRow.alloc (w := wr.drew) hown _) hg1 (Nat.le_trans hbs (by simp)) hlt).trans (by go_keep)⟩)
        (first | (refine step_append_any _ rfl (.tmp 12) (.tmp 25) 83 rfl w.heap.size 3 i0 (.int .i64 0) 1 8 Try.underlying83 hi hz0 hz1 hz2 rfl (by omega) _ k ((l.take k).map (Value.int .i64)) rfl (World.ownsRow.alloc (w := wr.drew) hown _) (wr.heap.size + 1) (some ⟨wr.heap.size, 0, none⟩) 1 1 [.int .i64 x] rfl hnew hone (by simp only [maxLen]; omega) (by omega) (Nat.le_trans hbs (by simp)) ?_; intro v1 w1 hown1 hg1 hat1))
      go_wp2
      go_roundw
      case rel =>
        refine ⟨k + 1, by omega, by go_num, ?_, below_own (w := wr.drew.alloc _) (Below.alloc (Below.drew hbl) hbs _) (World.ownsRow.alloc (w := wr.drew) hown _) hg1 (Nat.le_trans hbs (by simp))⟩
        rw [HT.out]
        exact hown1
      case measure => simp [intOf]; omega
    · obtain rfl : k = l.length := by omega
      rw [List.take_length] at hown
      obtain ⟨Av, cv, rfl, hrv, hnv, _⟩ := own_reads hown
      go_wp2
      go_ret
      exact ⟨Av, cv, rfl, hrv, hbl⟩
end Go.Proofs.Ytgebopmiefgdoaa

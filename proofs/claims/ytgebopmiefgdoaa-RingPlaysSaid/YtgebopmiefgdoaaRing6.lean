/-
  The callers of the ring's iterator: contracts of the law's back, of ring.Last and ring.Written.
-/
import Derived.Test.YtgebopmiefgdoaaRing5
import Derived.Maps.AppendAt
import Derived.Shelf.Abstract
namespace Go.Proofs.Ytgebopmiefgdoaa
open Go.RowKit Go.Shelf
attribute [local go_sem] Oper.semAt_some
theorem blk_own {β : Type} (B : Nat) (t : TypeId) (f : β → Array Value) : Own (fun s W => Blk W B t (f s)) := fun s X Y row hs hg hrow => by
  refine hs.grown hg (fun e' => ?_)
  obtain ⟨o, ho, hc⟩ := hrow B e'.symm
  rw [show X.heap[B]? = _ from hs] at ho
  cases ho
  cases hc
theorem pre_take {α : Type} (L : List α) (k M : Nat) (h : ((L.take k).dropLast).length = M) : (L.take k).dropLast = L.take M := by
  have hp : (L.take k).dropLast <+: L := List.IsPrefix.trans (List.dropLast_prefix _) (List.take_prefix _ _)
  rw [List.prefix_iff_eq_take] at hp
  rw [h] at hp
  exact hp
theorem own_low {w : World} {base base' : Nat} {e : TypeId} {size n : Nat} {v : Value} {xs : List Value} (h : w.ownsRow base e size v n xs) (hb : base' ≤ base) : w.ownsRow base' e size v n xs := by
  refine ⟨h.1, ?_⟩
  rcases h.2 with hn | ⟨b, cap, cur, rfl, hbb, rest⟩
  · exact .inl hn
  · exact .inr ⟨b, cap, cur, rfl, Nat.le_trans hb hbb, rest⟩
def Rec.arr (x : Rec) : Array Value := #[.int .u16 x.addr, .int .u8 x.data, .bool x.read, .bool x.ba, .bool x.bs, .bool x.lic, .bool x.avma, .bool x.busy, .bool x.mine]
set_option maxRecDepth 100000 in
set_option maxHeartbeats 8000000 in
theorem backL_any {B g : Nat} {P : List Rec} {at_ high total N : Nat} {v : Value} (M : Nat) (w : World) (h : RingAt B g P at_ high total v w) (hN : P.length = N) (hM : M ≤ 65536) :
    Calls Try.prog 55 #[.pointer (some ⟨g, 0, none⟩), .int .i64 (M : Int)] w fun e w' => ∃ v', e = .returned v' ∧ w'.ownsRow w.heap.size 64 9 v' (min M N) (recsV ((ringL P at_).reverse.take M)) ∧ Below w.heap.size w w' := by
  obtain ⟨i0, hi, hz0, hz1, hz2⟩ := info_parts info_rec
  have hglt := h.blk.lt
  have HH := Lib.hid h
  have HN := Lib.hid hN
  clear h hN
  refine (callsIn_wide (n := 6)).1 ?_
  refine callsIn_of_wp_marks Try.func55 rfl trivial ?_ rfl
  simp only [Try.ntmps55, List.size_toArray, List.length_cons, List.length_nil, Nat.reduceAdd, Nat.reduceSub, Array.replicate_succ, Array.replicate_zero, List.push_toArray, List.append_toArray, List.nil_append, List.cons_append]
  have hnf : ∀ (W : World) (x : Nat), (binOp .eql 147 (.func (.func 128) #[] #[.pointer (some ⟨x, 0, none⟩)]) .nilFunc).run Try.prog W = .ok (.bool false) W := fun _ _ => rfl
  gi_wp2_with ((refine ⟨trivial, ?_⟩; gi_at_call 109; refine (callsIn_wide.2 (Back_any g _)).mono ?_; rintro e w1 ⟨rfl, rfl⟩))
  have bM := ((Boxed.new w 3 (.int .i64 (M : Int))).alloc (.cells #[.pointer (some ⟨g, 0, none⟩)] 55)).alloc (.cells #[.slice none 0 0] 57)
  have bR := (Boxed.new (w.alloc (.cells #[.int .i64 (M : Int)] 3)) 55 (.pointer (some ⟨g, 0, none⟩))).alloc (.cells #[.slice none 0 0] 57)
  have bO := Boxed.new ((w.alloc (.cells #[.int .i64 (M : Int)] 3)).alloc (.cells #[.pointer (some ⟨g, 0, none⟩)] 55)) 57 (.slice none 0 0)
  simp only [World.size_alloc] at bR bO
  have hB0 : Below w.heap.size w (((w.alloc (.cells #[.int .i64 (M : Int)] 3)).alloc (.cells #[.pointer (some ⟨g, 0, none⟩)] 55)).alloc (.cells #[.slice none 0 0] 57)) := (((Below.refl _ w).alloc (Nat.le_refl _) _).alloc (by simp) _).alloc (by simp; omega) _
  have hsz : (((w.alloc (.cells #[.int .i64 (M : Int)] 3)).alloc (.cells #[.pointer (some ⟨g, 0, none⟩)] 55)).alloc (.cells #[.slice none 0 0] 57)).heap.size = w.heap.size + 3 := by simp
  obtain ⟨W0, hW0⟩ : ∃ W0, (((w.alloc (.cells #[.int .i64 (M : Int)] 3)).alloc (.cells #[.pointer (some ⟨g, 0, none⟩)] 55)).alloc (.cells #[.slice none 0 0] 57)) = W0 := ⟨_, rfl⟩
  rw [hW0] at bM bR bO hB0 hsz ⊢
  clear hW0
  have hvb : ∀ q, v.ownBlock = some q → q < w.heap.size + 1 + 1 := fun q e => by have := (HH.out.own.lt q e).2; omega
  have hLl := ringL_len P at_
  rw [HN.out] at hLl
  have HLL := Lib.hid hLl
  clear hLl
  refine wpIn_rangeFunc_ownH rfl (by omega) (gf := 128) (lb := #[.pointer (some ⟨w.heap.size + 1, 0, none⟩)]) rfl trivial (enters_of Try.func128 (by kernel_rfl) rfl)
    (Back_stops (n₀ := w.heap.size + 1 + 1) (6 - 1) (by omega) (w.heap.size + 1) W0 (HH.out.below hB0) HN.out bR.cell (by omega) hvb (by omega) (by omega)) belowK_t (belowK_b (by omega)) (Below.refl _ _) (fun _ => rfl)
    (fun pre W => ((∃ v', Boxed W (w.heap.size + 1 + 1) 57 v' ∧ W.ownsRow (w.heap.size + 1 + 1) 64 9 v' pre.length (recsV pre) ∧ True) ∧ (pre.length ≤ M ∧ Boxed W w.heap.size 3 (.int .i64 (M : Int)))) ∧ Below w.heap.size w W)
    (fun c pre W => ((c = .exit 0 ∧ pre.dropLast.length = M) ∧ (∃ v', Boxed W (w.heap.size + 1 + 1) 57 v' ∧ W.ownsRow (w.heap.size + 1 + 1) 64 9 v' pre.dropLast.length (recsV pre.dropLast) ∧ True)) ∧ Below w.heap.size w W)
    (OwnFrom.and (OwnFrom.and (Own.from (holdsRow_own (w.heap.size + 1 + 1) (w.heap.size + 1 + 1) 57 64 9 (fun pre : List Rec => pre.length) (fun pre => recsV pre) (fun _ _ => True)) _) (OwnFrom.and (ownFrom_pure _ _) (Own.from (boxed_own _ _ _) _))) (ownFrom_below (Nat.le_refl _) (by omega)))
    (fun c => OwnFrom.and (OwnFrom.and (ownFrom_pure _ (fun pre : List Rec => c = .exit 0 ∧ pre.dropLast.length = M)) (Own.from (holdsRow_own (w.heap.size + 1 + 1) (w.heap.size + 1 + 1) 57 64 9 (fun pre : List Rec => pre.dropLast.length) (fun pre => recsV pre.dropLast) (fun _ _ => True)) _)) (ownFrom_below (Nat.le_refl _) (by omega)))
    ⟨⟨⟨_, bO, World.ownsRow_nil _ _ _ _, trivial⟩, by simp, bM⟩, hB0⟩
    (fun x a' W => ∃ Bx, w.heap.size + 1 + 1 < Bx ∧ Blk W Bx 64 x.arr ∧ a' = { tmps := #[.pointer (some ⟨g, 0, none⟩), .int .i64 (M : Int), undef, .pointer (some ⟨w.heap.size, 0, none⟩), .slice none 0 0, .func (.func 128) #[] #[.pointer (some ⟨w.heap.size + 1, 0, none⟩)], .pointer (some ⟨w.heap.size + 1 + 1, 0, none⟩), .pointer (some ⟨Bx, 0, none⟩), .pointer (some ⟨g, 0, none⟩), .func (.func 128) #[] #[.pointer (some ⟨w.heap.size + 1, 0, none⟩)], .func (.func 128) #[] #[.pointer (some ⟨w.heap.size + 1, 0, none⟩)], .bool false, .func (.func 128) #[] #[.pointer (some ⟨w.heap.size + 1, 0, none⟩)], Rec.v x, undef, undef, undef, undef, undef, undef, undef, undef, undef], defers := [] })
    (fun x a' _ X Y row hs hg hr => by obtain ⟨Bx, h1, h2, h3⟩ := hs; exact ⟨Bx, h1, blk_own Bx 64 (fun (_ : Unit) => Rec.arr x) () X Y row h2 hg (fun r e => (hr r e).2), h3⟩)
    ?assign ?body ?done ?stop
  case assign =>
    rintro l pre ⟨x0, x1, x2, x3, x4, x5, x6, x7, x8⟩ W K ⟨⟨⟨v', hv1, hrow, _⟩, hle, bM1⟩, hB1⟩ hK
    simp only [Rec.v, Rec.cells] at *
    gi_wp2
    exact hK _ _ ((KeepsOthers.alloc _ _).from _) ((Below.refl _ W).alloc (by have := hB1.size; have := hv1.lt; omega) _) ⟨⟨⟨v', hv1.alloc _, hrow.alloc _, trivial⟩, hle, bM1.alloc _⟩, hB1.alloc hB1.size _⟩ ⟨W.heap.size, hv1.lt, Blk.new W _ _, rfl⟩
  case body =>
    rintro l pre ⟨x0, x1, x2, x3, x4, x5, x6, x7, x8⟩ a' W hl _ ⟨⟨⟨v', hv1, hrow, _⟩, hle, bM1⟩, hB1⟩ ⟨Bx, hBx, bX, rfl⟩ hlt
    have cM := bM1.cell
    have cO := hv1.cell
    have fO := hv1.frozen
    have c0 := bX.cell 0
    have c1 := bX.cell 1
    have c2 := bX.cell 2
    have c3 := bX.cell 3
    have c4 := bX.cell 4
    have c5 := bX.cell 5
    have c6 := bX.cell 6
    have c7 := bX.cell 7
    have c8 := bX.cell 8
    simp only [Rec.arr, List.getElem?_toArray, List.getElem?_cons_zero, List.getElem?_cons_succ] at c0 c1 c2 c3 c4 c5 c6 c7 c8
    obtain ⟨Av, cv, rfl, _, _, _⟩ := own_reads hrow
    simp only [Rec.v, Rec.cells] at *
    have hnewc : ∀ j u, ([.int .u16 x0, .int .u8 x1, .bool x2, .bool x3, .bool x4, .bool x5, .bool x6, .bool x7, .bool x8] : List Value)[j]? = some u → (W.alloc (.cells #[.int .u16 x0, .int .u8 x1, .bool x2, .bool x3, .bool x4, .bool x5, .bool x6, .bool x7, .bool x8] 64)).cell? ((⟨W.heap.size, 0, none⟩ : Addr).add j) = some u := fun j u hu => by
      rw [addr_add0, (Blk.new W 64 #[.int .u16 x0, .int .u8 x1, .bool x2, .bool x3, .bool x4, .bool x5, .bool x6, .bool x7, .bool x8]).cell j]
      simpa using hu
    have hone : ∀ u ∈ ([.int .u16 x0, .int .u8 x1, .bool x2, .bool x3, .bool x4, .bool x5, .bool x6, .bool x7, .bool x8] : List Value), u.oneCell' = true := rec_one ⟨x0, x1, x2, x3, x4, x5, x6, x7, x8⟩
    by_cases hm : pre.length = M
    · have hmi : ((pre.length : Int) == (M : Int)) = true := by rw [beq_iff_eq, hm]
      have HM := Lib.hid hm
      clear hm
      gi_wp2
      exact ⟨KeepsFrom.refl _ _, ⟨⟨⟨rfl, by rw [List.dropLast_concat]; exact HM.out⟩, ⟨_, hv1, by rw [List.dropLast_concat]; exact hrow, trivial⟩⟩, hB1⟩⟩
    · have hmi : ((pre.length : Int) == (M : Int)) = false := by rw [beq_eq_false_iff_ne]; omega
      gi_wp2_with (gi_at_builtin; refine wpListIn_append_own _ rfl _ _ 57 rfl (w.heap.size + 1 + 1) 64 i0 (.agg #[.int .u16 0, .int .u8 0, .bool false, .bool false, .bool false, .bool false, .bool false, .bool false, .bool false]) 9 10 Try.underlying57 hi hz0 hz1 hz2 rfl (by decide) _ _ _ rfl (hrow.alloc _) ⟨W.heap.size, 0, none⟩ 1 1 [.int .u16 x0, .int .u8 x1, .bool x2, .bool x3, .bool x4, .bool x5, .bool x6, .bool x7, .bool x8] rfl rfl hnewc hone (by simp only [maxLen]; omega) (by omega) (by have := hv1.lt; simp; omega) ?_; intro v4 w4 hown4 hgrow4 _; obtain ⟨g4, cap4, rfl⟩ := ownsRow_succ hown4; obtain ⟨hv2, hv3, hr3, hk3, hb3⟩ := hv1.appended (by decide) hrow (by have := hv1.lt; omega) (Nat.le_refl _) hown4 hgrow4; have hc4 := hv2.cell; have hf4 := hv2.frozen)
      have hb4 : Below w.heap.size w (w4.setCell ⟨w.heap.size + 1 + 1, 0, none⟩ (.slice (some ⟨g4, 0, none⟩) (pre.length + 1) cap4)) := hB1.trans (hb3.mono (by omega))
      have hM4 : Boxed w4 w.heap.size 3 (.int .i64 (M : Int)) := (bM1.alloc _).kept hgrow4 (fun e => by have := (hrow.lt w.heap.size e.symm).1; omega)
      refine ⟨hk3.from _, hb3, ⟨⟨⟨_, hv3, ?_, trivial⟩, by rw [List.length_append]; simp; omega, hM4.other (by omega) _⟩, hb4⟩⟩
      rw [List.length_append, recsV_append]
      simpa [recsV, Rec.cells] using hr3
  case done =>
    rintro D xs W hD rfl ⟨⟨⟨v', hv1, hrow, _⟩, hle, bM1⟩, hB1⟩ hK
    have cO := hv1.cell
    rw [List.length_reverse, HLL.out] at hle
    have hfull : (ringL P at_).reverse.take M = (ringL P at_).reverse := List.take_of_length_le (by rw [List.length_reverse, HLL.out]; exact hle)
    have hmn : min M N = N := by omega
    rw [List.length_reverse, HLL.out] at hrow
    have HF := Lib.hid hfull
    have HMN := Lib.hid hmn
    clear hfull hmn
    gi_wp2
    refine ⟨by simp, .inl ⟨_, _, rfl, run_takeDeferred hK, ?_⟩⟩
    refine ⟨_, results_tmp rfl _ _ _, v', rfl, ?_, hB1.trans (belowK_b (w := w) (Nat.le_refl _) W D _ _ (by omega) hK rfl rfl)⟩
    rw [HF.out, HMN.out]
    exact own_low (ownsRow_putObj hrow _ hK rfl) (by omega)
  case stop =>
    rintro D c pre W hD ⟨k, hk, rfl⟩ ⟨⟨⟨rfl, hlen⟩, ⟨v', hv1, hrow, _⟩⟩, hB1⟩ hK
    have cO := hv1.cell
    have hp := pre_take _ k M hlen
    rw [hp] at hrow hlen
    have hmn : min M N = M := by
      have := congrArg List.length hp
      rw [List.length_take, List.length_reverse, HLL.out] at hlen
      omega
    rw [hlen] at hrow
    have HMN := Lib.hid hmn
    clear hp hmn hlen
    gi_wp2
    refine ⟨by simp, .inl ⟨_, _, rfl, run_takeDeferred hK, ?_⟩⟩
    refine ⟨_, results_tmp rfl _ _ _, v', rfl, ?_, hB1.trans (belowK_b (w := w) (Nat.le_refl _) W D _ _ (by omega) hK rfl rfl)⟩
    rw [HMN.out]
    exact own_low (ownsRow_putObj hrow _ hK rfl) (by omega)
set_option maxRecDepth 100000 in
set_option maxHeartbeats 1000000 in
theorem Is_any (at_ : Int) (x : Rec) (w : World) :
    Calls Try.prog 48 #[.agg #[.int .u16 at_], Rec.v x] w fun e w' => e = .returned (.bool (decide (at_ ≤ x.addr))) ∧ Below w.heap.size w w' := by
  obtain ⟨x0, x1, x2, x3, x4, x5, x6, x7, x8⟩ := x
  simp only [Rec.v, Rec.cells]
  by_cases h : at_ ≤ x0
  · rw [decide_eq_true h]
    go_enter Try.func48, Try.ntmps48
    go_wp2
    go_ret
    exact ⟨rfl, below_alloc (below_alloc (Below.refl _ _) _) _⟩
  · rw [decide_eq_false h]
    have hd : decide (at_ ≤ x0) = false := decide_eq_false h
    clear h
    go_enter Try.func48, Try.ntmps48
    go_wp2
    go_ret
    exact ⟨rfl, below_alloc (below_alloc (Below.refl _ _) _) _⟩
set_option maxRecDepth 100000 in
set_option maxHeartbeats 1000000 in
theorem WrittenF_any (at_ : Int) (Bb : Nat) (x : Rec) (w : World) (h : Boxed w Bb 22 (.int .u16 at_)) :
    Calls Try.prog 110 #[Rec.v x, .pointer (some ⟨Bb, 0, none⟩)] w fun e w' => e = .returned (.bool (!x.read && x.addr == at_)) ∧ Below w.heap.size w w' := by
  obtain ⟨x0, x1, x2, x3, x4, x5, x6, x7, x8⟩ := x
  simp only [Rec.v, Rec.cells]
  have hb := h.lt
  have hc := h.cell
  cases x2 with
  | true =>
    go_enter Try.func110, Try.ntmps110
    go_wp2
    go_ret
    exact ⟨rfl, below_alloc (Below.refl _ _) _⟩
  | false =>
    go_enter Try.func110, Try.ntmps110
    go_wp2
    go_ret
    exact ⟨rfl, below_alloc (Below.refl _ _) _⟩
theorem keeps_below {B : Nat} {W W' : World} (h : Below W.heap.size W W') : KeepsFrom B W W' := ⟨h.size, fun i _ _ hi _ => (h.block i (Array.getElem?_eq_some_iff.1 hi).1).trans hi⟩
def zeroArr : Array Value := #[.int .u16 0, .int .u8 0, .bool false, .bool false, .bool false, .bool false, .bool false, .bool false, .bool false]
/-- The last one of which something is so. -/
def lastR (L : List Rec) (p : Rec → Bool) : Rec × Bool := match L.reverse.find? p with
  | some x => (x, true)
  | none => (rec0, false)
end Go.Proofs.Ytgebopmiefgdoaa

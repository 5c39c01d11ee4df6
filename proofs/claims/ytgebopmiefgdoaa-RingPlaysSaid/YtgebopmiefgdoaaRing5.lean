/-
  The ring's iterator: contracts of ring.Back and of the function that it hands back.
-/
import Derived.Test.YtgebopmiefgdoaaRing4
import Derived.RangeFuncNested
import Derived.RangeFuncBound
import Derived.RangeFuncCalls
import Derived.RangeFuncLeaves
import Derived.OwnWalkIn
import Derived.TacticsInMore
import Derived.LoopNIn
import Derived.LoopIn
namespace Go.Proofs.Ytgebopmiefgdoaa
open Go.RowKit
attribute [local go_sem] Oper.semAt_some
theorem RingAt.belowN {B g n₀ : Nat} {P : List Rec} {at_ high total : Nat} {v : Value} {w w' : World} (h : RingAt B g P at_ high total v w) (hb : Below n₀ w w') (hg : g < n₀) (hv : ∀ q, v.ownBlock = some q → q < n₀) : RingAt B g P at_ high total v w' := by
  refine ⟨h.hB, h.blk.below hb hg, ?_, h.h1, h.h2, h.h3, h.h4, h.h5⟩
  refine ⟨h.own.1, ?_⟩
  rcases h.own.2 with hn | ⟨b, cap, cur, rfl, hbb, hgg, rest⟩
  · exact .inl hn
  · exact .inr ⟨b, cap, cur, rfl, hbb, (hb.block b (hv b rfl)).trans hgg, rest⟩
theorem grown_none {w w' : World} (h : Below w.heap.size w w') : w.grownBy w' none := ⟨h.os, h.tape, h.output, h.size, fun i hi _ => h.block i hi⟩
set_option maxRecDepth 100000 in
set_option maxHeartbeats 4000000 in
theorem BackF_in {B g n₀ : Nat} {P : List Rec} {at_ high total N : Nat} {v : Value} (n : Nat) (hn : 1 ≤ n) (l Bs : Nat) (w0 : World) (h : RingAt B g P at_ high total v w0) (hN : P.length = N) (hBs0 : w0.cell? ⟨Bs, 0, none⟩ = some (.pointer (some ⟨g, 0, none⟩)))
    (hg : g < n₀) (hv : ∀ q, v.ownBlock = some q → q < n₀) (hB : Bs < n₀) (J Jx : List Rec → World → Prop) (W : World) (hJ : AbidesFrom W.heap.size J) (hn0 : n₀ ≤ W.heap.size) (hW : Below n₀ w0 W)
    (hY : ∀ pre x W, J pre W → pre.length < N → YieldAt Fence.wide (n - 1) Try.prog l #[Rec.v x] W fun e W' =>
      (e = .returned (.bool true) ∧ J (pre ++ [x]) W' ∧ Below n₀ W W') ∨ (e = .returned (.bool false) ∧ Jx (pre ++ [x]) W'))
    (h0 : J [] W) :
    CallsIn Fence.wide n Try.prog 128 #[.func (.yield l) #[] #[], .pointer (some ⟨Bs, 0, none⟩)] W fun e W' => (∃ v, e = .returned v) ∧
      ((∃ ys, ys = (ringL P at_).reverse ∧ J ys W') ∨ (∃ pre, (∃ k, k ≤ N ∧ pre = (ringL P at_).reverse.take k) ∧ Jx pre W')) := by
  have hLl := ringL_len P at_
  have h2 := h.h2
  have h3 := h.h3
  rw [hN] at hLl h3
  obtain ⟨A, c, hvA, _, _, _⟩ := own_reads h.own
  have HH := Lib.hid h
  have HN := Lib.hid hN
  have HLL := Lib.hid hLl
  have HG : Hid (∀ (i : Nat) (y : Rec) (W : World), Below n₀ w0 W → i < N → (ringL P at_)[i]? = some y → Calls Try.prog 111 #[.pointer (some ⟨g, 0, none⟩), .int .i64 (i : Int)] W fun e w' => e = .returned y.v ∧ Below W.heap.size W w') := fun i y W hb hi hy => RGet_any i y W (HH.out.belowN hb hg hv) (by rw [HN.out]; exact hi) hy
  have hq0 := (HH.out.belowN hW hg hv).blk.cell 0
  simp only [List.getElem?_toArray, List.getElem?_cons_zero] at hq0
  rw [hvA, HN.out] at hq0
  have hbs := (hW.cell (p := ⟨Bs, 0, none⟩) hB).trans hBs0
  have hN1 : ∀ k : Nat, k ≤ N → IntKind.i64.wrap ((N : Int) - 1 - (k : Int) - 1) = (N : Int) - 1 - (k : Int) - 1 := fun k hk => i64_in _ (by omega) (by omega)
  clear h hN hLl
  generalize ringL P at_ = L at *
  refine callsIn_of_wp Try.func128 rfl trivial ?_ rfl
  simp only [Try.ntmps128, List.size_toArray, List.length_cons, List.length_nil, Nat.reduceAdd, Nat.reduceSub, Array.replicate_succ, Array.replicate_zero, List.push_toArray, List.append_toArray, List.nil_append, List.cons_append]
  gi_wp2
  gi_loopw [3] (fun i wr => ∃ k : Nat, k ≤ N ∧ i = .int .i64 ((N : Int) - 1 - (k : Int)) ∧ J (L.reverse.take k) wr ∧ Below n₀ W wr) (fun i _ => ((intOf i) + 1).toNat)
  case atStart => exact ⟨0, Nat.zero_le _, by simp, h0, Below.refl _ _⟩
  case round =>
    obtain ⟨k, hk, rfl, hJs, hbl⟩ := hrel
    by_cases hlt : k < N
    · have hbr := (hbl.cell (p := ⟨Bs, 0, none⟩) hB).trans hbs
      have hge : (0 : Int) ≤ (N : Int) - 1 - (k : Int) := by omega
      obtain ⟨i, hi⟩ : ∃ i : Nat, (N : Int) - 1 - (k : Int) = (i : Int) := ⟨N - 1 - k, by omega⟩
      obtain ⟨y, hy⟩ : ∃ y, L[i]? = some y := ⟨L[i]'(by have := HLL.out; omega), List.getElem?_eq_getElem _⟩
      have hyr : L.reverse[k]? = some y := by
        rw [List.getElem?_reverse (by have := HLL.out; omega), HLL.out, show N - 1 - k = i by omega]
        exact hy
      have HT : Hid (L.reverse.take (k + 1) = L.reverse.take k ++ [y]) := by
        show L.reverse.take (k + 1) = L.reverse.take k ++ [y]
        rw [List.take_add_one, hyr]; rfl
      have hlen : (L.reverse.take k).length < N := by
        have := List.length_take_le k L.reverse
        omega
      have hwr := hN1 k hk
      have HGK := Lib.hid (HG.out i y wr (hW.trans hbl) (by omega) hy)
      have HJS := Lib.hid hJs
      have HI := Lib.hid hi
      have hsz := hbl.size
      rw [hi] at hge hwr ⊢
      clear hi hy hyr hJs
      gi_wp2_with ((refine ⟨trivial, ?_⟩; gi_at_call 111; refine (callsIn_wide.2 HGK.out).mono ?_; rintro e w1 ⟨rfl, hb1⟩; have hJ1 := hJ _ _ _ _ HJS.out (grown_none hb1) (fun r e => by cases e); obtain ⟨fn, tmps, assign, body, hyy, hR⟩ := hY _ y w1 hJ1 hlen))
      have hbl1 : Below n₀ W w1 := hbl.trans (hb1.mono (by omega))
      refine hR.mono ?_
      rintro e W3 (⟨rfl, hJ3, hk3⟩ | ⟨rfl, hJx3⟩)
      · gi_wp2
        go_roundw
        case rel => exact ⟨k + 1, by omega, by rw [← HI.out]; go_num, by rw [HT.out]; exact hJ3, hbl1.trans hk3⟩
        case measure => first | (simp [intOf]; done) | (simp [intOf]; omega)
      · gi_wp2
        refine bodyPost_ret (results_none rfl _ _ _) rfl ?_
        exact ⟨⟨_, rfl⟩, .inr ⟨_, ⟨k + 1, by omega, HT.out.symm⟩, hJx3⟩⟩
    · obtain rfl : k = N := by omega
      have hall : L.reverse.take k = L.reverse := List.take_of_length_le (by rw [List.length_reverse, HLL.out]; exact Nat.le_refl _)
      rw [hall] at hJs
      have hlt0 : (k : Int) - 1 - (k : Int) < 0 := by omega
      clear hall
      gi_wp2
      go_end0
      exact ⟨⟨_, rfl⟩, .inl ⟨_, rfl, hJs⟩⟩
theorem Back_stops {B g n₀ : Nat} {P : List Rec} {at_ high total N : Nat} {v : Value} (n : Nat) (hn : 1 ≤ n) (Bs : Nat) (w0 : World) (h : RingAt B g P at_ high total v w0) (hN : P.length = N) (hBs0 : w0.cell? ⟨Bs, 0, none⟩ = some (.pointer (some ⟨g, 0, none⟩)))
    (hg : g < n₀) (hv : ∀ q, v.ownBlock = some q → q < n₀) (hB : Bs < n₀) (hn0 : n₀ ≤ w0.heap.size) :
    SeqStopsK Fence.wide n Try.prog 128 #[.pointer (some ⟨Bs, 0, none⟩)] (fun x : Rec => #[Rec.v x]) (Below n₀) (fun ys => ys = (ringL P at_).reverse) (fun pre => ∃ k, k ≤ N ∧ pre = (ringL P at_).reverse.take k) N w0 := fun l J Jx W hW hJ _ hY h0 =>
  BackF_in n hn l Bs w0 h hN hBs0 hg hv hB J Jx W hJ (Nat.le_trans hn0 hW.size) (hW.mono hn0) hY h0
set_option maxRecDepth 100000 in
theorem Back_any (g : Nat) (w : World) :
    Calls Try.prog 109 #[.pointer (some ⟨g, 0, none⟩)] w fun e w' => e = .returned (.func (.func 128) #[] #[.pointer (some ⟨w.heap.size, 0, none⟩)]) ∧ w' = w.alloc (.cells #[.pointer (some ⟨g, 0, none⟩)] 55) := by
  go_enter Try.func109, Try.ntmps109
  go_wp2
  go_ret
  exact ⟨rfl, rfl⟩
end Go.Proofs.Ytgebopmiefgdoaa

/-
  A ring of records: what its block holds; contracts of New, Clear, Len, Total, get.
-/
import Derived.Test.YtgebopmiefgdoaaRecElem
import Derived.Test.YtgebopmiefgdoaaEqRec
import Derived.Test.YtgebopmiefgdoaaQueue3
import Derived.BigRegion
namespace Go.Proofs.Ytgebopmiefgdoaa
open Go.RowKit
structure RingAt (B g : Nat) (P : List Rec) (at_ high total : Nat) (v : Value) (w : World) : Prop where
  hB : B ≤ g
  blk : Blk w g 145 #[v, .int .i64 (at_ : Int), .int .i64 (high : Int), .int .u64 (total : Int)]
  own : w.ownsRow B 64 9 v P.length (recsV P)
  h1 : 1 ≤ high
  h2 : high ≤ 4096
  h3 : P.length ≤ high
  h4 : at_ < high
  h5 : P.length < high → at_ = 0
/-- The records in order, the eldest first. -/
def ringL (P : List Rec) (at_ : Nat) : List Rec := P.drop at_ ++ P.take at_
theorem RingAt.below {B g : Nat} {P : List Rec} {at_ high total : Nat} {v : Value} {w w' : World} (h : RingAt B g P at_ high total v w) (hb : Below w.heap.size w w') : RingAt B g P at_ high total v w' :=
  ⟨h.hB, h.blk.below hb h.blk.lt, own_below h.own hb, h.h1, h.h2, h.h3, h.h4, h.h5⟩
theorem ringL_len (P : List Rec) (at_ : Nat) : (ringL P at_).length = P.length := by
  simp only [ringL, List.length_append, List.length_drop, List.length_take]
  omega
theorem ringL_get (P : List Rec) (at_ i : Nat) (hi : i < P.length) (ha : at_ < P.length ∨ at_ = 0) : (ringL P at_)[i]? = P[(at_ + i) % P.length]? := by
  unfold ringL
  by_cases h : at_ + i < P.length
  · rw [Nat.mod_eq_of_lt h, List.getElem?_append_left (by rw [List.length_drop]; omega), List.getElem?_drop]
  · have h0 : at_ < P.length := by omega
    rw [List.getElem?_append_right (by rw [List.length_drop]; omega), List.length_drop, List.getElem?_take, if_pos (by omega)]
    have : (at_ + i) % P.length = i - (P.length - at_) := by
      rw [Nat.mod_eq_sub_mod (by omega), Nat.mod_eq_of_lt (by omega)]
      omega
    rw [this]
theorem RingAt.atlt {B g : Nat} {P : List Rec} {at_ high total : Nat} {v : Value} {w : World} (h : RingAt B g P at_ high total v w) (h0 : 0 < P.length) : at_ < P.length := by
  rcases Nat.lt_or_ge P.length high with h1 | h1
  · rw [h.h5 h1]; exact h0
  · have := h.h4
    omega
set_option maxRecDepth 100000 in
set_option maxHeartbeats 2000000 in
theorem RNew_any (most : Int) (high : Nat) (w : World) (hh : min (max most 1) 4096 = (high : Int)) :
    Calls Try.prog 43 #[.int .i64 most] w fun e w' => e = .returned (.pointer (some ⟨w.heap.size, 0, none⟩)) ∧ RingAt w.heap.size w.heap.size [] 0 high 0 (.slice none 0 0) w' ∧ Below w.heap.size w w' := by
  have hb : 1 ≤ high ∧ high ≤ 4096 := by omega
  by_cases h1 : most < 1
  · obtain rfl : high = 1 := by omega
    clear hh
    go_enter Try.func43, Try.ntmps43
    go_wp2
    go_ret
    exact ⟨rfl, ⟨Nat.le_refl _, Blk.new w _ _, own_nil _ _ _ _, hb.1, hb.2, by simp, by omega, fun _ => rfl⟩, below_alloc (Below.refl _ _) _⟩
  by_cases h2 : 4096 < most
  · obtain rfl : high = 4096 := by omega
    have h1' : 1 ≤ most := by omega
    clear hh h1
    go_enter Try.func43, Try.ntmps43
    go_wp2
    go_ret
    exact ⟨rfl, ⟨Nat.le_refl _, Blk.new w _ _, own_nil _ _ _ _, hb.1, hb.2, by simp, by omega, fun _ => rfl⟩, below_alloc (Below.refl _ _) _⟩
  obtain rfl : most = (high : Int) := by omega
  have h1' : (1 : Int) ≤ (high : Int) := by omega
  have h2' : (high : Int) ≤ 4096 := by omega
  clear hh h1 h2
  go_enter Try.func43, Try.ntmps43
  go_wp2
  go_ret
  exact ⟨rfl, ⟨Nat.le_refl _, Blk.new w _ _, own_nil _ _ _ _, hb.1, hb.2, by simp, by omega, fun _ => rfl⟩, below_alloc (Below.refl _ _) _⟩
set_option maxRecDepth 100000 in
set_option maxHeartbeats 2000000 in
theorem RLen_any {B g : Nat} {P : List Rec} {at_ high total : Nat} {v : Value} (n : Nat) (w : World) (h : RingAt B g P at_ high total v w) (hn : P.length = n) :
    Calls Try.prog 51 #[.pointer (some ⟨g, 0, none⟩)] w fun e w' => e = .returned (.int .i64 (n : Int)) ∧ w = w' := by
  obtain ⟨A, c, rfl, _, _, _⟩ := own_reads h.own
  have q := h.blk.cell 0
  simp only [List.getElem?_toArray, List.getElem?_cons_zero, hn] at q
  clear h
  go_enter Try.func51, Try.ntmps51
  go_wp2
  go_ret
  exact ⟨rfl, rfl⟩
set_option maxRecDepth 100000 in
set_option maxHeartbeats 2000000 in
theorem RTotal_any {B g : Nat} {P : List Rec} {at_ high total : Nat} {v : Value} (w : World) (h : RingAt B g P at_ high total v w) :
    Calls Try.prog 52 #[.pointer (some ⟨g, 0, none⟩)] w fun e w' => e = .returned (.int .u64 (total : Int)) ∧ w = w' := by
  have q := h.blk.cell 3
  simp only [List.getElem?_toArray, List.getElem?_cons_zero, List.getElem?_cons_succ] at q
  clear h
  go_enter Try.func52, Try.ntmps52
  go_wp2
  go_ret
  exact ⟨rfl, rfl⟩
set_option maxRecDepth 100000 in
set_option maxHeartbeats 2000000 in
theorem RClear_any {B g : Nat} {P : List Rec} {at_ high total : Nat} {v : Value} (w : World) (h : RingAt B g P at_ high total v w) :
    Calls Try.prog 44 #[.pointer (some ⟨g, 0, none⟩)] w fun e w' => e = .returned (.tuple #[]) ∧ RingAt B g [] 0 high 0 (.slice none 0 0) w' ∧ w.grownBy w' (some g) := by
  have q0 := h.blk.cell 0
  have q1 := h.blk.cell 1
  have q2 := h.blk.cell 2
  have q3 := h.blk.cell 3
  simp only [List.getElem?_toArray, List.getElem?_cons_zero, List.getElem?_cons_succ] at q0 q1 q2 q3
  have f := h.blk.frozen
  have HH := Lib.hid h
  clear h
  go_enter Try.func44, Try.ntmps44
  go_wp2
  go_end0
  refine ⟨rfl, ⟨HH.out.hB, ?_, own_nil _ _ _ _, HH.out.h1, HH.out.h2, by simp, by have := HH.out.h1; omega, fun _ => rfl⟩, ?_⟩
  · exact (((HH.out.blk.set_ 0 _).set_ 1 _).set_ 2 _).set_ 3 _
  · exact grown_set _ (grown_set _ (grown_set _ (grown_set _ (World.grownBy.refl _ _) _ _) _ _) _ _) _ _
theorem rec_get {w : World} {B n : Nat} {A : Option Addr} {ys : List Rec} (h : Reads w B 9 A n (recsV ys)) {k : Nat} {y : Rec} (hy : ys[k]? = some y) (hk : k < n) :
    ∃ ad, A = some ad ∧ ad.block < B ∧ w.cell? (ad.add (k * 9)) = some (.int .u16 y.addr) ∧ (w.cell? ⟨(ad.add (k * 9)).block, (ad.add (k * 9)).off + 1, none⟩ = some (.int .u8 y.data) ∧ w.cell? ⟨(ad.add (k * 9)).block, (ad.add (k * 9)).off + 2, none⟩ = some (.bool y.read) ∧ w.cell? ⟨(ad.add (k * 9)).block, (ad.add (k * 9)).off + 3, none⟩ = some (.bool y.ba) ∧ w.cell? ⟨(ad.add (k * 9)).block, (ad.add (k * 9)).off + 4, none⟩ = some (.bool y.bs) ∧ w.cell? ⟨(ad.add (k * 9)).block, (ad.add (k * 9)).off + 5, none⟩ = some (.bool y.lic) ∧ w.cell? ⟨(ad.add (k * 9)).block, (ad.add (k * 9)).off + 6, none⟩ = some (.bool y.avma) ∧ w.cell? ⟨(ad.add (k * 9)).block, (ad.add (k * 9)).off + 7, none⟩ = some (.bool y.busy) ∧ w.cell? ⟨(ad.add (k * 9)).block, (ad.add (k * 9)).off + 8, none⟩ = some (.bool y.mine)) := by
  obtain ⟨ad, y', rfl, hb, hy', hc⟩ := rec_at h hk
  rw [hy] at hy'
  obtain rfl := Option.some.inj hy'
  have a0 : (ad.add (k * 9)).add 0 = ad.add (k * 9) := by rw [add_of_add, Nat.add_zero]
  have h0 := hc 0 _ rfl
  rw [a0] at h0
  have hj : ∀ j, j ≠ 0 → (ad.add (k * 9)).add j = ⟨(ad.add (k * 9)).block, (ad.add (k * 9)).off + j, none⟩ := fun j hj => add_pos _ _ hj
  refine ⟨ad, rfl, hb, h0, ?_⟩
  rw [← hj 1 (by omega), ← hj 2 (by omega), ← hj 3 (by omega), ← hj 4 (by omega), ← hj 5 (by omega), ← hj 6 (by omega), ← hj 7 (by omega), ← hj 8 (by omega)]
  exact ⟨hc 1 _ rfl, hc 2 _ rfl, hc 3 _ rfl, hc 4 _ rfl, hc 5 _ rfl, hc 6 _ rfl, hc 7 _ rfl, hc 8 _ rfl⟩
set_option maxRecDepth 100000 in
set_option maxHeartbeats 4000000 in
theorem RGet_any {B g : Nat} {P : List Rec} {at_ high total : Nat} {v : Value} (i : Nat) (y : Rec) (w : World) (h : RingAt B g P at_ high total v w) (hi : i < P.length) (hy : (ringL P at_)[i]? = some y) :
    Calls Try.prog 111 #[.pointer (some ⟨g, 0, none⟩), .int .i64 (i : Int)] w fun e w' => e = .returned y.v ∧ Below w.heap.size w w' := by
  have hal := h.atlt (by omega)
  rw [ringL_get P at_ i hi (.inl hal)] at hy
  obtain ⟨A, c, rfl, hr, _, _⟩ := own_reads h.own
  have q0 := h.blk.cell 0
  have q1 := h.blk.cell 1
  simp only [List.getElem?_toArray, List.getElem?_cons_zero, List.getElem?_cons_succ] at q0 q1
  have h2 := h.h2
  have h3 := h.h3
  have hgl := h.blk.lt
  obtain ⟨j, hj⟩ : ∃ j, (at_ + i) % P.length = j := ⟨_, rfl⟩
  have hjl : j < P.length := by rw [← hj]; exact Nat.mod_lt _ (by omega)
  have e1 : ((at_ : Int) + (i : Int)) % (P.length : Int) = (j : Int) := by rw [← hj, Int.natCast_emod, Int.natCast_add]
  have e2 : Int.tmod ((at_ : Int) + (i : Int)) (P.length : Int) = (j : Int) := by rw [Int.tmod_eq_emod_of_nonneg (by omega)]; exact e1
  have e3 : IntKind.i64.wrap ((at_ : Int) + (i : Int)) = (at_ : Int) + (i : Int) := i64_in _ (by omega) (by omega)
  have e4 : IntKind.i64.wrap (j : Int) = (j : Int) := i64_in _ (by omega) (by omega)
  rw [hj] at hy
  obtain ⟨ad, rfl, had, p0, p1, p2, p3, p4, p5, p6, p7, p8⟩ := rec_get (hr.below (below_alloc (Below.refl _ w) (.cells #[.int .u16 0, .int .u8 0, .bool false, .bool false, .bool false, .bool false, .bool false, .bool false, .bool false] 64))) hy hjl
  generalize hn : P.length = n at *
  have hn0 : ((n : Int) == 0) = false := by rw [beq_eq_false_iff_ne]; omega
  have hj0 : (0 : Int) ≤ (j : Int) := by omega
  have hj1 : (j : Int) < (n : Int) := by omega
  clear hr hy hj h hn
  go_enter Try.func111, Try.ntmps111
  go_wp2
  go_region
  all_goals
    go_wp2
    have hR : Blk (w.alloc (.cells #[.int .u16 y.addr, .int .u8 y.data, .bool y.read, .bool y.ba, .bool y.bs, .bool y.lic, .bool y.avma, .bool y.busy, .bool y.mine] 64)).drew w.heap.size 64 #[.int .u16 y.addr, .int .u8 y.data, .bool y.read, .bool y.ba, .bool y.bs, .bool y.lic, .bool y.avma, .bool y.busy, .bool y.mine] := Blk.new w _ _
    exact bodyPost_ret (by exact results_cell_row rfl _ _ w.heap.size 64 _ (0, 0) _ rfl hR Try.underlying64 rfl (by kernel_rfl)) rfl ⟨rfl, below_drewN (below_alloc (Below.refl _ _) _) 1⟩
end Go.Proofs.Ytgebopmiefgdoaa

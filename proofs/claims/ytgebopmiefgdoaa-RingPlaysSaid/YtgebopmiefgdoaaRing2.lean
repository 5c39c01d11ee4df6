/-
  Contract of ring.Add.
-/
import Derived.Test.YtgebopmiefgdoaaRing
import Derived.Deep.RegionLaw
import Derived.BigQuiet
import Derived.Deep.QuietTactic
namespace Go.Proofs.Ytgebopmiefgdoaa
open Go.RowKit
/-- One more: the eldest goes, if there are as many as may be. -/
def pushL (high : Nat) (L : List Rec) (x : Rec) : List Rec := if L.length < high then L ++ [x] else L.drop 1 ++ [x]
theorem ringL_push (P : List Rec) (at_ high : Nat) (x : Rec) (h1 : P.length < high) (h0 : at_ = 0) : ringL (P ++ [x]) 0 = pushL high (ringL P at_) x := by
  subst h0
  unfold pushL
  rw [ringL_len, if_pos h1]
  simp [ringL]
theorem ringL_set (P : List Rec) (at_ high : Nat) (x : Rec) (h1 : P.length = high) (h0 : at_ < high) : ringL (P.set at_ x) ((at_ + 1) % high) = pushL high (ringL P at_) x := by
  subst h1
  unfold pushL
  rw [ringL_len, if_neg (by omega)]
  have hd : (P.set at_ x).drop (at_ + 1) = P.drop (at_ + 1) := by rw [List.drop_set_of_lt (by omega)]
  have ht : (P.set at_ x).take (at_ + 1) = P.take at_ ++ [x] := by
    rw [List.take_add_one, List.take_set_of_le (Nat.le_refl _), List.getElem?_set_self (by omega)]
    rfl
  unfold ringL
  have hdd : (List.drop at_ P ++ List.take at_ P).drop 1 = P.drop (at_ + 1) ++ P.take at_ := by
    rw [List.drop_append_of_le_length (by rw [List.length_drop]; omega), List.drop_drop]
  rw [hdd]
  by_cases hl : at_ + 1 = P.length
  · rw [hl, Nat.mod_self]
    simp only [List.drop_zero, List.take_zero, List.append_nil]
    have hd0 : P.drop P.length = [] := List.drop_length
    rw [hd0, List.nil_append]
    have : P.set at_ x = (P.set at_ x).take (at_ + 1) := by rw [List.take_of_length_le (by rw [List.length_set]; omega)]
    rw [this, ht]
  · rw [Nat.mod_eq_of_lt (by omega), hd, ht, List.append_assoc]
theorem own_ne {B g n : Nat} {v : Value} {xs : List Value} {w : World} {cs : Array Value} (h : w.ownsRow B 64 9 v n xs) (hb : Blk w g 145 cs) : v.ownBlock = none ∨ v.ownBlock ≠ some g := by
  rcases h.2 with ⟨rfl, _⟩ | ⟨b, cap, cur, rfl, _, hg, _⟩
  · exact .inl rfl
  · right
    intro e
    have e' : some b = some g := e
    injection e' with e'
    subst e'
    exact hb.ne_ hg (by decide) rfl
theorem RingAt.total_ {B g : Nat} {P : List Rec} {at_ high total : Nat} {v : Value} {w : World} (h : RingAt B g P at_ high total v w) (t : Nat) : RingAt B g P at_ high t v (w.setCell ⟨g, 3, none⟩ (.int .u64 (t : Int))) := by
  refine ⟨h.hB, h.blk.set_ 3 _, ?_, h.h1, h.h2, h.h3, h.h4, h.h5⟩
  exact h.own.kept (row := some g) (grown_set _ (World.grownBy.refl _ _) _ _) (own_ne h.own h.blk)
/-- Beside the ring's block, and its row's, nothing has turned. -/
structure OnlyRing (g : Nat) (v : Value) (w w' : World) : Prop where
  os : w'.os = w.os
  tape : w'.tape = w.tape
  output : w'.output = w.output
  size : w.heap.size ≤ w'.heap.size
  block : ∀ q, q < w.heap.size → q ≠ g → some q ≠ v.ownBlock → w'.heap[q]? = w.heap[q]?
theorem OnlyRing.refl (g : Nat) (v : Value) (w : World) : OnlyRing g v w w := ⟨rfl, rfl, rfl, Nat.le_refl _, fun _ _ _ _ => rfl⟩
theorem OnlyRing.trans {g : Nat} {v v1 : Value} {w w1 w2 : World} (h1 : OnlyRing g v w w1) (hv : v1.ownBlock = v.ownBlock ∨ ∀ q, v1.ownBlock = some q → w.heap.size ≤ q) (h2 : OnlyRing g v1 w1 w2) : OnlyRing g v w w2 :=
  ⟨h2.os.trans h1.os, h2.tape.trans h1.tape, h2.output.trans h1.output, Nat.le_trans h1.size h2.size, fun q hq hqg hqv => (h2.block q (Nat.lt_of_lt_of_le hq h1.size) hqg (fun e => by
    rcases hv with hv | hv
    · exact hqv (e.trans hv)
    · have := hv q e.symm
      omega)).trans (h1.block q hq hqg hqv)⟩
theorem OnlyRing.below {g B : Nat} {v : Value} {w w' : World} (h : OnlyRing g v w w') (hB : B ≤ w.heap.size) (hg : B ≤ g) (hv : ∀ q, v.ownBlock = some q → B ≤ q) : Below B w w' :=
  ⟨h.os, h.tape, h.output, h.size, fun q hq => h.block q (by omega) (by omega) (fun e => by have := hv q e.symm; omega)⟩
theorem recs_set (P : List Rec) (k : Nat) (x : Rec) (cur : Array Value) (hk : k < P.length) (hc : cur.toList.take (P.length * 9) = recsV P) :
    (((((((((cur.setIfInBounds (k * 9) (.int .u16 x.addr)).setIfInBounds (k * 9 + 1) (.int .u8 x.data)).setIfInBounds (k * 9 + 2) (.bool x.read)).setIfInBounds (k * 9 + 3) (.bool x.ba)).setIfInBounds (k * 9 + 4) (.bool x.bs)).setIfInBounds (k * 9 + 5) (.bool x.lic)).setIfInBounds (k * 9 + 6) (.bool x.avma)).setIfInBounds (k * 9 + 7) (.bool x.busy)).setIfInBounds (k * 9 + 8) (.bool x.mine)).toList.take ((P.set k x).length * 9) = recsV (P.set k x) := by
  have hl : (recsV P).length = P.length * 9 := flat_length Rec.cells_len P
  have hlc : P.length * 9 ≤ cur.size := by
    have := congrArg List.length hc
    rw [List.length_take, Array.length_toList (xs := cur), hl] at this
    omega
  apply List.ext_getElem?
  intro q
  rw [List.getElem?_take, List.length_set]
  by_cases hq : q < P.length * 9
  · rw [if_pos hq]
    have e1 : q = q / 9 * 9 + q % 9 := by omega
    have hqd : q / 9 < P.length := by omega
    have hr : q % 9 < 9 := Nat.mod_lt _ (by omega)
    have hset : (P.set k x)[q / 9]? = some (if q / 9 = k then x else P[q / 9]) := by
      rw [List.getElem?_set]
      by_cases h : k = q / 9
      · rw [if_pos h, if_pos hk, if_pos h.symm]
      · rw [if_neg h, if_neg (fun e => h e.symm), List.getElem?_eq_getElem hqd]
    have hget := flat_get Rec.cells_len (P.set k x) (q / 9) (q % 9) _ hset hr
    rw [← e1] at hget
    show _ = (recsV (P.set k x))[q]?
    unfold recsV
    rw [hget]
    have hold : cur.toList[q]? = (recsV P)[q]? := by rw [← hc, List.getElem?_take, if_pos hq]
    have hold2 := flat_get Rec.cells_len P (q / 9) (q % 9) _ (List.getElem?_eq_getElem hqd) hr
    rw [← e1] at hold2
    by_cases h : q / 9 = k
    · rw [if_pos h]
      have hq' : q = k * 9 + q % 9 := by omega
      have hsz : k * 9 + 8 < cur.size := by omega
      rw [Array.getElem?_toList]
      generalize q % 9 = r at *
      clear hget hold hold2 hset e1 hqd
      subst hq'
      have hcase : r = 0 ∨ r = 1 ∨ r = 2 ∨ r = 3 ∨ r = 4 ∨ r = 5 ∨ r = 6 ∨ r = 7 ∨ r = 8 := by omega
      rcases hcase with rfl | rfl | rfl | rfl | rfl | rfl | rfl | rfl | rfl
      all_goals
        try simp only [Nat.add_zero]
        repeat rw [Array.getElem?_setIfInBounds_ne (by omega)]
        rw [Array.getElem?_setIfInBounds_self_of_lt (by first | omega | (simp only [Array.size_setIfInBounds]; omega))]
        rfl
    · rw [if_neg h, Array.getElem?_toList]
      have hne : ∀ j, j < 9 → k * 9 + j ≠ q := fun j hj e => h (by omega)
      rw [Array.getElem?_setIfInBounds_ne (hne 8 (by omega)), Array.getElem?_setIfInBounds_ne (hne 7 (by omega)), Array.getElem?_setIfInBounds_ne (hne 6 (by omega)), Array.getElem?_setIfInBounds_ne (hne 5 (by omega)), Array.getElem?_setIfInBounds_ne (hne 4 (by omega)), Array.getElem?_setIfInBounds_ne (hne 3 (by omega)), Array.getElem?_setIfInBounds_ne (hne 2 (by omega)), Array.getElem?_setIfInBounds_ne (hne 1 (by omega)), Array.getElem?_setIfInBounds_ne (by have := hne 0 (by omega); omega), ← Array.getElem?_toList, hold]
      exact hold2
  · rw [if_neg hq]
    have : (recsV (P.set k x)).length = P.length * 9 := by
      have := flat_length Rec.cells_len (P.set k x)
      rw [List.length_set] at this
      exact this
    rw [List.getElem?_eq_none (by omega)]
theorem fold_snocR {α β : Type} (f : β → α → β) (s : β) (l : List α) (k : Nat) (x : α) (h : l[k]? = some x) : (l.take (k + 1)).foldl f s = f ((l.take k).foldl f s) x := by
  rw [List.take_add_one, h, List.foldl_append]
  rfl
def addPost (B g high total : Nat) (L : List Rec) (xs : List Rec) (v : Value) (w : World) (e : Ending) (w' : World) : Prop :=
  e = .returned (.tuple #[]) ∧ ∃ P' at' v', RingAt B g P' at' high (total + xs.length) v' w' ∧ ringL P' at' = xs.foldl (pushL high) L ∧ OnlyRing g v w w' ∧ (v'.ownBlock = v.ownBlock ∨ ∀ q, v'.ownBlock = some q → w.heap.size ≤ q)
def addRel (B g high total : Nat) (L : List Rec) (xs : List Rec) (v : Value) (w : World) (n : Nat) (i : Value) (wr : World) : Prop :=
  ∃ (k : Nat) (P' : List Rec) (at' : Nat) (v' : Value), k ≤ n ∧ i = .int .i64 (k : Int) ∧ RingAt B g P' at' high (total + k) v' wr ∧ ringL P' at' = (xs.take k).foldl (pushL high) L ∧ OnlyRing g v w wr ∧ (v'.ownBlock = v.ownBlock ∨ ∀ q, v'.ownBlock = some q → w.heap.size ≤ q)
theorem fold_next (high : Nat) (L xs : List Rec) (k : Nat) (x : Rec) (h : xs[k]? = some x) : (xs.take (k + 1)).foldl (pushL high) L = pushL high ((xs.take k).foldl (pushL high) L) x := fold_snocR (pushL high) L xs k x h
set_option maxRecDepth 100000 in
set_option maxHeartbeats 8000000 in
theorem RAdd_any {B g : Nat} {P : List Rec} {at_ high total : Nat} {v : Value} (xs : List Rec) (Ax : Option Addr) (nx cx : Nat) (w : World) (h : RingAt B g P at_ high total v w) (_hB : B ≤ w.heap.size) (hr : Reads w w.heap.size 9 Ax nx (recsV xs)) (hap : ∀ ad, 0 < nx → Ax = some ad → ad.block ≠ g ∧ v.ownBlock ≠ some ad.block) (hnx : nx ≤ 65536) (ht : total ≤ 1048576) :
    Calls Try.prog 45 #[.pointer (some ⟨g, 0, none⟩), .slice Ax nx cx] w (addPost B g high total (ringL P at_) xs v w) := by
  obtain ⟨i0, hi, hz0, hz1, hz2⟩ := info_parts info_rec
  have hln : xs.length = nx := Reads.len Rec.cells_len (by omega) hr
  have HLN := Lib.hid hln
  have HH := Lib.hid h
  clear h hln
  go_enter Try.func45, Try.ntmps45
  go_wp2
  go_loopw [5, 8] (fun _ i wr => addRel B g high total (ringL P at_) xs v w nx i wr) (fun _ i _ => nx - (intOf i).toNat)
  case atStart => exact ⟨0, P, at_, v, by omega, rfl, HH.out, rfl, OnlyRing.refl _ _ _, .inl rfl⟩
  case round =>
    obtain ⟨k, P', at', v', hk, rfl, hR, hL, hon, hvv⟩ := hrel
    have HL := Lib.hid hL
    have HON := Lib.hid hon
    have HVV := Lib.hid hvv
    clear hL hon hvv
    by_cases hlt : k < nx
    · have hlt' : (k : Int) < (nx : Int) := by omega
      have hown := hR.own
      have hgB := hR.hB
      have hglt := hR.blk.lt
      obtain ⟨Al, cl, rfl, hrl, hncl, hcml⟩ := own_reads hown
      have hrw : Reads wr w.heap.size 9 Ax nx (recsV xs) := ⟨hr.1, fun hn => by
        obtain ⟨ad, e, hb, hc⟩ := hr.2 hn
        obtain ⟨h1, h2⟩ := hap ad hn e
        exact ⟨ad, e, hb, fun j u hu => (World.cell?_of_block (HON.out.block (ad.add j).block (by rw [block_of_add]; exact hb) (by rw [block_of_add]; exact h1) (by rw [block_of_add]; exact fun e => h2 e.symm))).trans (hc j u hu)⟩⟩
      obtain ⟨ad, ⟨y0, y1, y2, y3, y4, y5, y6, y7, y8⟩, rfl, had, hy, hcy⟩ := rec_at hrw hlt
      have hcy' : ∀ j u, [Value.int .u16 y0, .int .u8 y1, .bool y2, .bool y3, .bool y4, .bool y5, .bool y6, .bool y7, .bool y8][j]? = some u → wr.cell? ((ad.add (k * 9)).add j) = some u := hcy
      have HY := Lib.hid hy
      have HR := Lib.hid hR
      have q0 := hR.blk.cell 0
      have q1 := hR.blk.cell 1
      have q2 := hR.blk.cell 2
      have q3 := hR.blk.cell 3
      simp only [List.getElem?_toArray, List.getElem?_cons_zero, List.getElem?_cons_succ] at q0 q1 q2 q3
      have f0 := hR.blk.frozen
      have h2 := hR.h2
      have h3 := hR.h3
      have h4 := hR.h4
      have hw3 : IntKind.u64.wrap (((total + k : Nat) : Int) + 1) = ((total + (k + 1) : Nat) : Int) := by
        unfold IntKind.wrap
        simp [IntKind.signed, IntKind.bits]
        omega
      have hw3' : (((total + k : Nat) : Int) + 1) = ((total + (k + 1) : Nat) : Int) := by omega
      clear hy hcy hR hown hrl
      go_wp2_with (with_reducible refine wpList_load_at rfl 64 (.tmp 10) rfl (ad.add (k * 9)) rfl _ _ hcy' Try.underlying64 rfl (by kernel_rfl) ?_)
      have hR2' := (HR.out.total_ (total + (k + 1))).below (below_alloc (Below.refl _ _) (.cells #[.int .u16 y0, .int .u8 y1, .bool y2, .bool y3, .bool y4, .bool y5, .bool y6, .bool y7, .bool y8] 64))
      rw [show (((total + (k + 1) : Nat)) : Int) = (total : Int) + (k : Int) + 1 by omega] at hR2'
      have hbx2 : Blk ((wr.setCell ⟨g, 3, none⟩ (.int .u64 ((total : Int) + (k : Int) + 1))).alloc (.cells #[.int .u16 y0, .int .u8 y1, .bool y2, .bool y3, .bool y4, .bool y5, .bool y6, .bool y7, .bool y8] 64)) wr.heap.size 64 #[.int .u16 y0, .int .u8 y1, .bool y2, .bool y3, .bool y4, .bool y5, .bool y6, .bool y7, .bool y8] := by
        have h := Blk.new (wr.setCell ⟨g, 3, none⟩ (.int .u64 ((total : Int) + (k : Int) + 1))) 64 #[.int .u16 y0, .int .u8 y1, .bool y2, .bool y3, .bool y4, .bool y5, .bool y6, .bool y7, .bool y8]
        simpa using h
      have hon2 : OnlyRing g (.slice Al P'.length cl) wr ((wr.setCell ⟨g, 3, none⟩ (.int .u64 ((total : Int) + (k : Int) + 1))).alloc (.cells #[.int .u16 y0, .int .u8 y1, .bool y2, .bool y3, .bool y4, .bool y5, .bool y6, .bool y7, .bool y8] 64)) := ⟨rfl, rfl, rfl, by simp, fun q hq hqg _ => (Below.heap_alloc _ _ q (by simpa using hq)).trans (Below.heap_setCell _ _ _ _ hqg)⟩
      have hs2 : ((wr.setCell ⟨g, 3, none⟩ (.int .u64 ((total : Int) + (k : Int) + 1))).alloc (.cells #[.int .u16 y0, .int .u8 y1, .bool y2, .bool y3, .bool y4, .bool y5, .bool y6, .bool y7, .bool y8] 64)).heap.size = wr.heap.size + 1 := by simp
      clear q0 q1 q2 q3 f0 hw3 hw3' hcy' had
      generalize ((wr.setCell ⟨g, 3, none⟩ (.int .u64 ((total : Int) + (k : Int) + 1))).alloc (.cells #[.int .u16 y0, .int .u8 y1, .bool y2, .bool y3, .bool y4, .bool y5, .bool y6, .bool y7, .bool y8] 64)) = W2 at *
      have q0 := hR2'.blk.cell 0
      have q1 := hR2'.blk.cell 1
      have q2 := hR2'.blk.cell 2
      simp only [List.getElem?_toArray, List.getElem?_cons_zero, List.getElem?_cons_succ] at q0 q1 q2
      have f0 := hR2'.blk.frozen
      have HR2 : Hid (RingAt B g P' at' high (total + (k + 1)) (.slice Al P'.length cl) W2) := by
        show RingAt B g P' at' high (total + (k + 1)) (.slice Al P'.length cl) W2
        have := hR2'
        obtain ⟨a1, a2, a3, a4, a5, a6, a7, a8⟩ := this
        refine ⟨a1, ?_, a3, a4, a5, a6, a7, a8⟩
        rw [show (((total + (k + 1) : Nat)) : Int) = (total : Int) + (k : Int) + 1 by omega]
        exact a2
      have HBX := Lib.hid hbx2
      have HON2 := Lib.hid hon2
      clear hR2' hbx2 hon2
      by_cases hfull : P'.length < high
      · have hfi : (P'.length : Int) < (high : Int) := by omega
        go_quiet (fail)
        go_wp2
        have HR3 := Lib.hid (HR2.out.below (below_drewN (Below.refl _ W2) nq))
        have HBX3 := Lib.hid (HBX.out.drewN nq)
        have HON3 : Hid (OnlyRing g (.slice Al P'.length cl) wr (W2.drewN nq)) := ⟨HON2.out.os, HON2.out.tape, HON2.out.output, HON2.out.size, HON2.out.block⟩
        have hs3 : (W2.drewN nq).heap.size = wr.heap.size + 1 := hs2
        clear q0 q1 q2 f0
        generalize W2.drewN nq = W3 at *
        have q0 := HR3.out.blk.cell 0
        have q1 := HR3.out.blk.cell 1
        have q2 := HR3.out.blk.cell 2
        simp only [List.getElem?_toArray, List.getElem?_cons_zero, List.getElem?_cons_succ] at q0 q1 q2
        have f0 := HR3.out.blk.frozen
        have b0 := HBX3.out.cell 0
        have b1 := HBX3.out.cell 1
        have b2 := HBX3.out.cell 2
        have b3 := HBX3.out.cell 3
        have b4 := HBX3.out.cell 4
        have b5 := HBX3.out.cell 5
        have b6 := HBX3.out.cell 6
        have b7 := HBX3.out.cell 7
        have b8 := HBX3.out.cell 8
        simp only [List.getElem?_toArray, List.getElem?_cons_zero, List.getElem?_cons_succ] at b0 b1 b2 b3 b4 b5 b6 b7 b8
        have hown3 := HR3.out.own
        have HOWN3 := Lib.hid hown3
        have hone : ∀ u ∈ ([Value.int .u16 y0, .int .u8 y1, .bool y2, .bool y3, .bool y4, .bool y5, .bool y6, .bool y7, .bool y8] : List Value), u.oneCell' = true := rec_one ⟨y0, y1, y2, y3, y4, y5, y6, y7, y8⟩
        have hownd : (W3.drew.alloc (.cells #[Value.int .u16 y0, .int .u8 y1, .bool y2, .bool y3, .bool y4, .bool y5, .bool y6, .bool y7, .bool y8] 64)).ownsRow B 64 9 (.slice Al P'.length cl) P'.length (recsV P') := World.ownsRow.alloc (w := W3.drew) hown3 _
        have hnew : Reads (W3.drew.alloc (.cells #[Value.int .u16 y0, .int .u8 y1, .bool y2, .bool y3, .bool y4, .bool y5, .bool y6, .bool y7, .bool y8] 64)) (wr.heap.size + 1 + 1) 9 (some ⟨wr.heap.size + 1, 0, none⟩) 1 [Value.int .u16 y0, .int .u8 y1, .bool y2, .bool y3, .bool y4, .bool y5, .bool y6, .bool y7, .bool y8] := by
          refine ⟨rfl, fun _ => ⟨_, rfl, Nat.lt_succ_self _, fun q u hu => ?_⟩⟩
          rw [addr_add0]
          have hn := Blk.new W3.drew 64 #[Value.int .u16 y0, .int .u8 y1, .bool y2, .bool y3, .bool y4, .bool y5, .bool y6, .bool y7, .bool y8]
          rw [show W3.drew.heap.size = wr.heap.size + 1 from hs3] at hn
          rw [hn.cell q]
          simpa using hu
        have hBs : B ≤ (W3.drew.alloc (.cells #[Value.int .u16 y0, .int .u8 y1, .bool y2, .bool y3, .bool y4, .bool y5, .bool y6, .bool y7, .bool y8] 64)).heap.size := by
          have : W3.drew.heap.size = wr.heap.size + 1 := hs3
          simp
          omega
        have hgw3 : g < W3.drew.heap.size := HR3.out.blk.lt
        go_region_law (refine step_append_any _ rfl (.tmp 33) (.tmp 35) 57 rfl B 64 i0 (.agg #[.int .u16 0, .int .u8 0, .bool false, .bool false, .bool false, .bool false, .bool false, .bool false, .bool false]) 9 10 Try.underlying57 hi hz0 hz1 hz2 rfl (by omega) (.slice Al P'.length cl) P'.length (recsV P') (by simp [Act.eval]) hownd (wr.heap.size + 1 + 1) (some ⟨wr.heap.size + 1, 0, none⟩) 1 1 [Value.int .u16 y0, .int .u8 y1, .bool y2, .bool y3, .bool y4, .bool y5, .bool y6, .bool y7, .bool y8] (by simp [Act.eval]) hnew hone (by simp only [maxLen]; omega) (by omega) hBs ?_; intro v4 W4 hown4 hg4 hat4; obtain ⟨A4, c4, rfl, _, _, _⟩ := own_reads hown4; have hb4 := ((HR3.out.blk.drew.alloc (.cells #[Value.int .u16 y0, .int .u8 y1, .bool y2, .bool y3, .bool y4, .bool y5, .bool y6, .bool y7, .bool y8] 64)).grown hg4 (fun e => by rcases own_ne hown3 HR3.out.blk with h | h <;> rw [← e] at h <;> simp at h)); have d0 := hb4.cell 0; have fz := hb4.frozen 0)
        all_goals
          go_wp2
          have hv4 : (Value.slice A4 (P'.length + 1) c4).ownBlock = none ∨ (Value.slice A4 (P'.length + 1) c4).ownBlock ≠ some g := own_ne hown4 hb4
          refine ⟨⟨k + 1, P' ++ [⟨y0, y1, y2, y3, y4, y5, y6, y7, y8⟩], 0, .slice A4 (P'.length + 1) c4, by omega, by go_num, ⟨hgB, ?_, ?_, HR3.out.h1, h2, by rw [List.length_append]; simp; omega, by omega, fun _ => rfl⟩, ?_, ?_, ?_⟩, by simp [intOf]; omega⟩
          · have h := hb4.set_ 0 (.slice A4 (P'.length + 1) c4)
            rw [HR3.out.h5 hfull] at h
            simpa using h
          · have := hown4.kept (row := some g) (grown_set _ (World.grownBy.refl _ _) 0 (.slice A4 (P'.length + 1) c4)) hv4
            rw [List.length_append, recsV_append]
            simpa [recsV, Rec.cells] using this
          · rw [ringL_push P' at' high _ hfull (HR3.out.h5 hfull), HL.out, fold_next high (ringL P at_) xs k _ HY.out]
          · refine HON.out.trans HVV.out ⟨hg4.os.trans HON3.out.os, hg4.tape.trans HON3.out.tape, hg4.output.trans HON3.out.output, ?_, fun q hq hqg hqv => ?_⟩
            · have h1 := hg4.size
              have h2 := HON3.out.size
              simp at h1 ⊢
              omega
            · have h2 := HON3.out.size
              refine (Below.heap_setCell _ _ _ _ hqg).trans ((hg4.block q (by have : W3.drew.heap.size = W3.heap.size := rfl; simp; omega) hqv).trans ((Below.heap_alloc _ _ q (by have : W3.drew.heap.size = W3.heap.size := rfl; omega)).trans ?_))
              exact HON3.out.block q hq hqg hqv
          · rcases hat4 with h | h
            · rcases HVV.out with h1 | h1
              · exact .inl (h.trans h1)
              · right
                intro q e
                exact h1 q (h.symm.trans e)
            · right
              intro q e
              rw [h] at e
              have h1 := HON.out.size
              have h2 := HON3.out.size
              have h3 := Option.some.inj e
              simp at h3
              omega
      · have hfi : (high : Int) ≤ (P'.length : Int) := by omega
        go_quiet (fail)
        go_wp2
        have HR3 := Lib.hid (HR2.out.below (below_drewN (Below.refl _ W2) nq))
        have HBX3 := Lib.hid (HBX.out.drewN nq)
        have HON3 : Hid (OnlyRing g (.slice Al P'.length cl) wr (W2.drewN nq)) := ⟨HON2.out.os, HON2.out.tape, HON2.out.output, HON2.out.size, HON2.out.block⟩
        have hs3 : (W2.drewN nq).heap.size = wr.heap.size + 1 := hs2
        clear q0 q1 q2 f0
        generalize W2.drewN nq = W3 at *
        have q0 := HR3.out.blk.cell 0
        have q1 := HR3.out.blk.cell 1
        have q2 := HR3.out.blk.cell 2
        simp only [List.getElem?_toArray, List.getElem?_cons_zero, List.getElem?_cons_succ] at q0 q1 q2
        have f0 := HR3.out.blk.frozen
        have b0 := HBX3.out.cell 0
        have b1 := HBX3.out.cell 1
        have b2 := HBX3.out.cell 2
        have b3 := HBX3.out.cell 3
        have b4 := HBX3.out.cell 4
        have b5 := HBX3.out.cell 5
        have b6 := HBX3.out.cell 6
        have b7 := HBX3.out.cell 7
        have b8 := HBX3.out.cell 8
        simp only [List.getElem?_toArray, List.getElem?_cons_zero, List.getElem?_cons_succ] at b0 b1 b2 b3 b4 b5 b6 b7 b8
        have hfe : P'.length = high := by omega
        have hown3 := HR3.out.own
        obtain ⟨b, cap, cur, hv, hBb, hcur, hnc, hcm2, hcs, htk⟩ : ∃ b cap cur, Value.slice Al P'.length cl = .slice (some ⟨b, 0, none⟩) P'.length cap ∧ B ≤ b ∧ Blk W3 b 64 cur ∧ P'.length ≤ cap ∧ cap ≤ maxLen ∧ cur.size = cap * 9 ∧ cur.toList.take (P'.length * 9) = recsV P' := by
          rcases hown3.2 with ⟨_, h0⟩ | h
          · exact absurd h0 (by have := HR3.out.h1; omega)
          · exact h
        injection hv with hv1 hv2 hv3
        subst hv1 hv3
        have hbg : b ≠ g := fun e => by rcases own_ne hown3 HR3.out.blk with h | h <;> simp [Value.ownBlock, e] at h
        have hgb : g ≠ b := fun e => hbg e.symm
        have hcz : high * 9 ≤ cur.size := by
          rw [hcs, ← hfe]
          exact Nat.mul_le_mul_right 9 hnc
        obtain ⟨o0, c0⟩ : ∃ u, W3.cell? ⟨b, at' * 9, none⟩ = some u := ⟨_, (hcur.cell _).trans (Array.getElem?_eq_getElem (by omega))⟩
        obtain ⟨o1, c1⟩ : ∃ u, W3.cell? ⟨b, at' * 9 + 1, none⟩ = some u := ⟨_, (hcur.cell _).trans (Array.getElem?_eq_getElem (by omega))⟩
        obtain ⟨o2, c2⟩ : ∃ u, W3.cell? ⟨b, at' * 9 + 2, none⟩ = some u := ⟨_, (hcur.cell _).trans (Array.getElem?_eq_getElem (by omega))⟩
        obtain ⟨o3, c3⟩ : ∃ u, W3.cell? ⟨b, at' * 9 + 3, none⟩ = some u := ⟨_, (hcur.cell _).trans (Array.getElem?_eq_getElem (by omega))⟩
        obtain ⟨o4, c4⟩ : ∃ u, W3.cell? ⟨b, at' * 9 + 4, none⟩ = some u := ⟨_, (hcur.cell _).trans (Array.getElem?_eq_getElem (by omega))⟩
        obtain ⟨o5, c5⟩ : ∃ u, W3.cell? ⟨b, at' * 9 + 5, none⟩ = some u := ⟨_, (hcur.cell _).trans (Array.getElem?_eq_getElem (by omega))⟩
        obtain ⟨o6, c6⟩ : ∃ u, W3.cell? ⟨b, at' * 9 + 6, none⟩ = some u := ⟨_, (hcur.cell _).trans (Array.getElem?_eq_getElem (by omega))⟩
        obtain ⟨o7, c7⟩ : ∃ u, W3.cell? ⟨b, at' * 9 + 7, none⟩ = some u := ⟨_, (hcur.cell _).trans (Array.getElem?_eq_getElem (by omega))⟩
        obtain ⟨o8, c8⟩ : ∃ u, W3.cell? ⟨b, at' * 9 + 8, none⟩ = some u := ⟨_, (hcur.cell _).trans (Array.getElem?_eq_getElem (by omega))⟩
        have fb := hcur.frozen
        have hadd : (⟨b, 0, none⟩ : Addr).add (at' * 9) = ⟨b, at' * 9, none⟩ := addr_add0 b _
        have ha0 : (0 : Int) ≤ (at' : Int) := by omega
        have ha1 : (at' : Int) < (P'.length : Int) := by omega
        have hwa : IntKind.i64.wrap ((at' : Int) + 1) = (at' : Int) + 1 := i64_in _ (by omega) (by omega)
        go_wp2
        go_region
        all_goals
          have hW := (((((((((hcur.set_ (at' * 9) (.int .u16 y0)).set_ (at' * 9 + 1) (.int .u8 y1)).set_ (at' * 9 + 2) (.bool y2)).set_ (at' * 9 + 3) (.bool y3)).set_ (at' * 9 + 4) (.bool y4)).set_ (at' * 9 + 5) (.bool y5)).set_ (at' * 9 + 6) (.bool y6)).set_ (at' * 9 + 7) (.bool y7)).set_ (at' * 9 + 8) (.bool y8))
          have hG := (((((((((HR3.out.blk.far (p := ⟨b, at' * 9, none⟩) hgb (.int .u16 y0)).far (p := ⟨b, at' * 9 + 1, none⟩) hgb (.int .u8 y1)).far (p := ⟨b, at' * 9 + 2, none⟩) hgb (.bool y2)).far (p := ⟨b, at' * 9 + 3, none⟩) hgb (.bool y3)).far (p := ⟨b, at' * 9 + 4, none⟩) hgb (.bool y4)).far (p := ⟨b, at' * 9 + 5, none⟩) hgb (.bool y5)).far (p := ⟨b, at' * 9 + 6, none⟩) hgb (.bool y6)).far (p := ⟨b, at' * 9 + 7, none⟩) hgb (.bool y7)).far (p := ⟨b, at' * 9 + 8, none⟩) hgb (.bool y8))
          have hGB : W3.grownBy (((((((((W3.setCell ⟨b, at' * 9, none⟩ (.int .u16 y0)).setCell ⟨b, at' * 9 + 1, none⟩ (.int .u8 y1)).setCell ⟨b, at' * 9 + 2, none⟩ (.bool y2)).setCell ⟨b, at' * 9 + 3, none⟩ (.bool y3)).setCell ⟨b, at' * 9 + 4, none⟩ (.bool y4)).setCell ⟨b, at' * 9 + 5, none⟩ (.bool y5)).setCell ⟨b, at' * 9 + 6, none⟩ (.bool y6)).setCell ⟨b, at' * 9 + 7, none⟩ (.bool y7)).setCell ⟨b, at' * 9 + 8, none⟩ (.bool y8)) (some b) := grown_set _ (grown_set _ (grown_set _ (grown_set _ (grown_set _ (grown_set _ (grown_set _ (grown_set _ (grown_set _ (World.grownBy.refl _ _) _ _) _ _) _ _) _ _) _ _) _ _) _ _) _ _) _ _
          replace hW := hW.drew
          replace hG := hG.drew
          replace hGB := grown_drew _ hGB
          have hrs := recs_set P' at' ⟨y0, y1, y2, y3, y4, y5, y6, y7, y8⟩ cur (by omega) htk
          clear q0 q1 q2 f0 b0 b1 b2 b3 b4 b5 b6 b7 b8 c0 c1 c2 c3 c4 c5 c6 c7 c8 fb hadd htk
          go_wp2
          generalize (((((((((W3.setCell ⟨b, at' * 9, none⟩ (.int .u16 y0)).setCell ⟨b, at' * 9 + 1, none⟩ (.int .u8 y1)).setCell ⟨b, at' * 9 + 2, none⟩ (.bool y2)).setCell ⟨b, at' * 9 + 3, none⟩ (.bool y3)).setCell ⟨b, at' * 9 + 4, none⟩ (.bool y4)).setCell ⟨b, at' * 9 + 5, none⟩ (.bool y5)).setCell ⟨b, at' * 9 + 6, none⟩ (.bool y6)).setCell ⟨b, at' * 9 + 7, none⟩ (.bool y7)).setCell ⟨b, at' * 9 + 8, none⟩ (.bool y8)).drew = W4 at *
          have q1 := hG.cell 1
          have q2 := hG.cell 2
          simp only [List.getElem?_toArray, List.getElem?_cons_zero, List.getElem?_cons_succ] at q1 q2
          have f0 := hG.frozen
          have hh0 : ((high : Int) == 0) = false := by rw [beq_eq_false_iff_ne]; omega
          obtain ⟨a2, ha2⟩ : ∃ a2, (at' + 1) % high = a2 := ⟨_, rfl⟩
          have e1 : ((at' : Int) + 1) % (high : Int) = (a2 : Int) := by rw [← ha2, Int.natCast_emod]; rfl
          have e2 : Int.tmod ((at' : Int) + 1) (high : Int) = (a2 : Int) := by rw [Int.tmod_eq_emod_of_nonneg (by omega)]; exact e1
          have ha2l : a2 < high := by rw [← ha2]; exact Nat.mod_lt _ (by omega)
          have e3 : IntKind.i64.wrap (a2 : Int) = (a2 : Int) := i64_in _ (by omega) (by omega)
          have HA2 := Lib.hid ha2
          have HGG := Lib.hid hG
          have HWW := Lib.hid hW
          clear ha2 hG hW
          go_region
          all_goals
            go_wp2
            refine ⟨⟨k + 1, P'.set at' ⟨y0, y1, y2, y3, y4, y5, y6, y7, y8⟩, a2, .slice (some ⟨b, 0, none⟩) P'.length cl, by omega, by go_num, ⟨hgB, ?_, ?_, HR3.out.h1, h2, by rw [List.length_set]; exact h3, ha2l, fun h => absurd h (by rw [List.length_set]; omega)⟩, ?_, ?_, ?_⟩, by simp [intOf]; omega⟩
            · have h := (HGG.out.set_ 1 (.int .i64 (a2 : Int))).drew
              simpa using h
            · have h := (HWW.out.far (p := ⟨g, 1, none⟩) hbg (.int .i64 (a2 : Int))).drew
              rw [List.length_set]
              rw [List.length_set] at hrs
              refine ⟨by rw [recsV, flat_length Rec.cells_len, List.length_set], .inr ⟨b, _, _, rfl, hBb, h, hnc, hcm2, by simp only [Array.size_setIfInBounds]; exact hcs, hrs⟩⟩
            · rw [← HA2.out, ringL_set P' at' high _ hfe h4, HL.out, fold_next high (ringL P at_) xs k _ HY.out]
            · refine HON.out.trans HVV.out ⟨hGB.os.trans HON3.out.os, hGB.tape.trans HON3.out.tape, hGB.output.trans HON3.out.output, ?_, fun q hq hqg hqv => ?_⟩
              · have h1 := hGB.size
                have h2 := HON3.out.size
                simp
                omega
              · have h2 := HON3.out.size
                exact (Below.heap_setCell _ _ _ _ hqg).trans ((hGB.block q (by omega) hqv).trans (HON3.out.block q hq hqg hqv))
            · exact HVV.out
    · obtain rfl : k = nx := by omega
      go_wp2
      go_end0
      have hall : xs.take k = xs := List.take_of_length_le (by rw [HLN.out]; exact Nat.le_refl _)
      have hL := HL.out
      rw [hall] at hL
      exact ⟨rfl, P', at', v', by rw [HLN.out]; exact hR, hL, HON.out, HVV.out⟩
end Go.Proofs.Ytgebopmiefgdoaa

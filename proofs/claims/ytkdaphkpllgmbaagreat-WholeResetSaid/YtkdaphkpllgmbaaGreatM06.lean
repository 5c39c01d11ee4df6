/-
  Contracts of lists.regs, lists.Order.
  Contracts of math/bits.Mul of 1 and a small number, of slices.Repeat of one step, phase.Some, phase.First.
  Contracts of slices.Repeat of one step, of phase.Some, phase.First.
-/
import Derived.Test.YtkdaphkpllgmbaaGreatM01
import Derived.Test.YtkdaphkpllgmbaaGreatM02
import Derived.Laws.Rows
import Derived.Test.YtkdaphkpllgmbaaGreatM05
import Derived.LoopTactic
import Derived.BigRegion
import Derived.Laws.MakeOwn
import Derived.Deep.RegionLaw
import Derived.Great.BuildSlice
namespace Go.Proofs.YtkdaphkpllgmbaaGreat
open Go.RowKit Sp
set_option linter.unusedVariables false
def partV (p : Part) : List Value := [.int .i64 p.reg, .bool p.high]
def partsV (l : List Part) : List Value := l.flatMap partV
theorem partsV_append (l m : List Part) : partsV (l ++ m) = partsV l ++ partsV m := by simp [partsV]
theorem partsV_length (l : List Part) : (partsV l).length = l.length * 2 := by
  induction l with
  | nil => rfl
  | cons p l ih => simp only [partsV, List.flatMap_cons, List.length_append, List.length_cons] at ih ⊢; simp [partV] at ih ⊢; omega
theorem Reads.newS (w : World) (t : TypeId) (cs : Array Value) (n size B : Nat) (hn : cs.size = n * size) (hB : w.heap.size < B) : Reads (w.alloc (.cells cs t)) B size (some ⟨w.heap.size, 0, none⟩) n cs.toList := by
  refine ⟨by simp [hn], fun _ => ⟨_, rfl, hB, fun j u hu => ?_⟩⟩
  rw [addr_add0, cell_of_row (w.alloc (.cells cs t)) w.heap.size j cs t (0, 0) (heap_alloc_new w _)]
  simpa using hu
def regsA (x : Int) : Array Value := #[.int .i64 10, .int .i64 8, .int .i64 9, .int .i64 11, .int .i64 1, .int .i64 2, .int .i64 x, .int .i64 5]
set_option maxRecDepth 100000 in
theorem regs_t (stack : Int) (w : World) :
    Calls Tryz.prog 183 #[.int .i64 stack] w fun e w' => e = .returned (.agg (regsA (if stack = 3 then 4 else 3))) ∧ Below w.heap.size w w' := by
  by_cases h : stack = 3
  · subst h
    go_enter Tryz.func183, Tryz.ntmps183
    go_wp2
    refine bodyPost_ret (v := .agg (regsA 4)) ?_ rfl ⟨rfl, below_alloc (below_alloc (Below.refl _ _) _) _⟩
    exact (results_cell_row rfl _ _ w.heap.size 250 (regsA 4) (0, 0) _ rfl (Blk.alloc (heap_alloc_new w _) _) Tryz.underlying250 rfl (by kernel_rfl)).trans rfl
  · have h3 : (stack == 3) = false := beq_eq_false_iff_ne.mpr h
    rw [if_neg h]
    go_enter Tryz.func183, Tryz.ntmps183
    go_wp2
    refine bodyPost_ret (v := .agg (regsA 3)) ?_ rfl ⟨rfl, below_alloc (below_alloc (Below.refl _ _) _) _⟩
    exact (results_cell_row rfl _ _ w.heap.size 250 (regsA 3) (0, 0) _ rfl (Blk.alloc (heap_alloc_new w _) _) Tryz.underlying250 rfl (by kernel_rfl)).trans rfl
def seg (post : UInt8) (x : Int) (k : Nat) : List Part :=
  if off post k then [] else if k = 0 then [⟨10, false⟩] else if k = 1 then [⟨8, false⟩] else if k = 2 then [⟨9, false⟩] else if k = 3 then [⟨11, false⟩] else if k = 4 then [⟨1, true⟩, ⟨1, false⟩] else if k = 5 then [⟨2, true⟩, ⟨2, false⟩] else if k = 6 then [⟨x, true⟩, ⟨x, false⟩] else [⟨5, true⟩, ⟨5, false⟩]
def orderTo (post : UInt8) (x : Int) (k : Nat) : List Part := (List.range k).flatMap (seg post x)
theorem orderTo_succ (post : UInt8) (x : Int) (k : Nat) : orderTo post x (k + 1) = orderTo post x k ++ seg post x k := by simp [orderTo, List.range_succ]
theorem orderTo_8 (post : UInt8) (stack : Int) : orderTo post (if stack = 3 then 4 else 3) 8 = order post stack := by
  simp only [orderTo, List.range, List.range.loop, List.flatMap_cons, List.flatMap_nil, List.append_nil, order, seg, List.append_assoc]
  by_cases h : stack = 3 <;> simp [h]
theorem orderTo_len (post : UInt8) (x : Int) (k : Nat) : (orderTo post x k).length ≤ 2 * k := by
  induction k with
  | zero => simp [orderTo]
  | succ k ih =>
    rw [orderTo_succ, List.length_append]
    have : (seg post x k).length ≤ 2 := by unfold seg; (repeat' split) <;> simp
    omega
def OwnParts (l : List Part) (w : World) (e : Ending) (w' : World) : Prop := ∃ v, e = .returned v ∧ w'.ownsRow w.heap.size 219 2 v l.length (partsV l) ∧ Below w.heap.size w w'
theorem partZero : (Tryz.prog.info? 219).map (fun i => (i.zero, i.size, i.bytes)) = some (some (.agg #[.int .i64 0, .bool false]), 2, 16) := by kernel_rfl
theorem part_one (p : Part) : ∀ u ∈ partV p, u.oneCell' = true := by intro u hu; simp [partV] at hu; rcases hu with rfl | rfl <;> rfl
theorem offI_0 (post : UInt8) : (Go.bits .and .u8 ((post.toNat : Int) / 1) 1 == 0) = off post 0 := by
  exact all_bytes (fun post => (Go.bits .and .u8 ((post.toNat : Int) / 1) 1 == 0) = off post 0) (by decide +kernel) post
theorem offI_1 (post : UInt8) : (Go.bits .and .u8 ((post.toNat : Int) / 2) 1 == 0) = off post 1 := by
  exact all_bytes (fun post => (Go.bits .and .u8 ((post.toNat : Int) / 2) 1 == 0) = off post 1) (by decide +kernel) post
theorem offI_2 (post : UInt8) : (Go.bits .and .u8 ((post.toNat : Int) / 4) 1 == 0) = off post 2 := by
  exact all_bytes (fun post => (Go.bits .and .u8 ((post.toNat : Int) / 4) 1 == 0) = off post 2) (by decide +kernel) post
theorem offI_3 (post : UInt8) : (Go.bits .and .u8 ((post.toNat : Int) / 8) 1 == 0) = off post 3 := by
  exact all_bytes (fun post => (Go.bits .and .u8 ((post.toNat : Int) / 8) 1 == 0) = off post 3) (by decide +kernel) post
theorem offI_4 (post : UInt8) : (Go.bits .and .u8 ((post.toNat : Int) / 16) 1 == 0) = off post 4 := by
  exact all_bytes (fun post => (Go.bits .and .u8 ((post.toNat : Int) / 16) 1 == 0) = off post 4) (by decide +kernel) post
theorem offI_5 (post : UInt8) : (Go.bits .and .u8 ((post.toNat : Int) / 32) 1 == 0) = off post 5 := by
  exact all_bytes (fun post => (Go.bits .and .u8 ((post.toNat : Int) / 32) 1 == 0) = off post 5) (by decide +kernel) post
theorem offI_6 (post : UInt8) : (Go.bits .and .u8 ((post.toNat : Int) / 64) 1 == 0) = off post 6 := by
  exact all_bytes (fun post => (Go.bits .and .u8 ((post.toNat : Int) / 64) 1 == 0) = off post 6) (by decide +kernel) post
theorem offI_7 (post : UInt8) : (Go.bits .and .u8 ((post.toNat : Int) / 128) 1 == 0) = off post 7 := by
  exact all_bytes (fun post => (Go.bits .and .u8 ((post.toNat : Int) / 128) 1 == 0) = off post 7) (by decide +kernel) post
theorem offI_0b (post : UInt8) : (Go.bits .and .u8 (post.toNat : Int) 1 == 0) = off post 0 := by
  have := offI_0 post
  rwa [Int.ediv_one] at this
set_option maxRecDepth 100000 in
set_option maxHeartbeats 4000000 in
theorem Order_t (post : UInt8) (stack : Int) (w : World) :
    Calls Tryz.prog 154 #[.int .u8 (post.toNat : Int), .int .i64 stack] w (OwnParts (order post stack) w) := by
  obtain ⟨i0, hi, hz0, hz1, hz2⟩ := info_parts partZero
  rw [← orderTo_8]
  have HR := Lib.hid (fun W => regs_t stack W)
  generalize (if stack = 3 then 4 else 3 : Int) = x at *
  go_enter Tryz.func154, Tryz.ntmps154
  go_wp2_with (go_at_call 183; refine (HR.out _).mono ?_; rintro e w1 ⟨rfl, hb⟩)
  go_loopw [5, 10] (fun v i wr => ∃ k : Nat, k ≤ 8 ∧ i = .int .i64 k ∧ wr.ownsRow w.heap.size 219 2 v (orderTo post x k).length (partsV (orderTo post x k)) ∧ Below w.heap.size w wr) (fun _ i _ => 8 - (intOf i).toNat)
  case atStart => exact ⟨0, by omega, rfl, own_nil _ _ _ _, hb⟩
  case round =>
    obtain ⟨k, hk, rfl, hown, hbl⟩ := hrel
    rcases (show k = 0 ∨ k = 1 ∨ k = 2 ∨ k = 3 ∨ k = 4 ∨ k = 5 ∨ k = 6 ∨ k = 7 ∨ k = 8 from by omega) with rfl | rfl | rfl | rfl | rfl | rfl | rfl | rfl | rfl
    rotate_left 8
    · go_wp2
      go_ret
      exact ⟨_, rfl, hown, hbl⟩
    · as_aux_lemma =>
      have hix : ∀ W : World, (Instr.index 250 (.agg (regsA x)) (.int .i64 0)).run Tryz.prog W = .ok (.int .i64 10) W := fun _ => by kernel_rfl
      have ho := offI_0b post
      have HT := Lib.hid (orderTo_succ post x 0)
      have hlen := orderTo_len post x 0
      have hbs := hbl.size
      have HSG := Lib.hid (show seg post x 0 = if off post 0 then [] else [⟨10, false⟩] from rfl)
      generalize orderTo post x 0 = L at *
      generalize off post 0 = o at *
      cases o
      · go_wp2_with (at_builtin; refine wpList_append_any _ rfl (.tmp 26) (.tmp 29) 206 rfl w.heap.size 219 i0 (.agg #[.int .i64 0, .bool false]) 2 16 Tryz.underlying206 hi hz0 hz1 hz2 rfl (by omega) u5 L.length (partsV L) rfl (hown.alloc _) (wr.heap.size + 1) (some ⟨wr.heap.size, 0, none⟩) 1 1 (partV (⟨10, false⟩ : Part)) rfl (Reads.newS wr _ #[.int .i64 10, .bool false] 1 2 _ rfl (by omega)) (part_one _) (by simp only [maxLen]; omega) (by omega) (Nat.le_trans hbs (by simp)) ?_; intro v1 w1 hown_v1 hg_v1 hat_v1)
        go_roundw
        case rel => exact ⟨0 + 1, by omega, rfl, by rw [HT.out, HSG.out]; simpa [partsV_append, partsV] using hown_v1, below_own (below_alloc' hbl) (hown.alloc _) hg_v1 (Nat.le_trans hbs (by simp))⟩
        case measure => simp [intOf]
      · go_wp2
        go_roundw
        case rel => exact ⟨0 + 1, by omega, rfl, by rw [HT.out, HSG.out]; simpa using hown, hbl⟩
        case measure => simp [intOf]
    · as_aux_lemma =>
      have hix : ∀ W : World, (Instr.index 250 (.agg (regsA x)) (.int .i64 1)).run Tryz.prog W = .ok (.int .i64 8) W := fun _ => by kernel_rfl
      have ho := offI_1 post
      have HT := Lib.hid (orderTo_succ post x 1)
      have hlen := orderTo_len post x 1
      have hbs := hbl.size
      have HSG := Lib.hid (show seg post x 1 = if off post 1 then [] else [⟨8, false⟩] from rfl)
      generalize orderTo post x 1 = L at *
      generalize off post 1 = o at *
      cases o
      · go_wp2_with (at_builtin; refine wpList_append_any _ rfl (.tmp 26) (.tmp 29) 206 rfl w.heap.size 219 i0 (.agg #[.int .i64 0, .bool false]) 2 16 Tryz.underlying206 hi hz0 hz1 hz2 rfl (by omega) u5 L.length (partsV L) rfl (hown.alloc _) (wr.heap.size + 1) (some ⟨wr.heap.size, 0, none⟩) 1 1 (partV (⟨8, false⟩ : Part)) rfl (Reads.newS wr _ #[.int .i64 8, .bool false] 1 2 _ rfl (by omega)) (part_one _) (by simp only [maxLen]; omega) (by omega) (Nat.le_trans hbs (by simp)) ?_; intro v1 w1 hown_v1 hg_v1 hat_v1)
        go_roundw
        case rel => exact ⟨1 + 1, by omega, rfl, by rw [HT.out, HSG.out]; simpa [partsV_append, partsV] using hown_v1, below_own (below_alloc' hbl) (hown.alloc _) hg_v1 (Nat.le_trans hbs (by simp))⟩
        case measure => simp [intOf]
      · go_wp2
        go_roundw
        case rel => exact ⟨1 + 1, by omega, rfl, by rw [HT.out, HSG.out]; simpa using hown, hbl⟩
        case measure => simp [intOf]
    · as_aux_lemma =>
      have hix : ∀ W : World, (Instr.index 250 (.agg (regsA x)) (.int .i64 2)).run Tryz.prog W = .ok (.int .i64 9) W := fun _ => by kernel_rfl
      have ho := offI_2 post
      have HT := Lib.hid (orderTo_succ post x 2)
      have hlen := orderTo_len post x 2
      have hbs := hbl.size
      have HSG := Lib.hid (show seg post x 2 = if off post 2 then [] else [⟨9, false⟩] from rfl)
      generalize orderTo post x 2 = L at *
      generalize off post 2 = o at *
      cases o
      · go_wp2_with (at_builtin; refine wpList_append_any _ rfl (.tmp 26) (.tmp 29) 206 rfl w.heap.size 219 i0 (.agg #[.int .i64 0, .bool false]) 2 16 Tryz.underlying206 hi hz0 hz1 hz2 rfl (by omega) u5 L.length (partsV L) rfl (hown.alloc _) (wr.heap.size + 1) (some ⟨wr.heap.size, 0, none⟩) 1 1 (partV (⟨9, false⟩ : Part)) rfl (Reads.newS wr _ #[.int .i64 9, .bool false] 1 2 _ rfl (by omega)) (part_one _) (by simp only [maxLen]; omega) (by omega) (Nat.le_trans hbs (by simp)) ?_; intro v1 w1 hown_v1 hg_v1 hat_v1)
        go_roundw
        case rel => exact ⟨2 + 1, by omega, rfl, by rw [HT.out, HSG.out]; simpa [partsV_append, partsV] using hown_v1, below_own (below_alloc' hbl) (hown.alloc _) hg_v1 (Nat.le_trans hbs (by simp))⟩
        case measure => simp [intOf]
      · go_wp2
        go_roundw
        case rel => exact ⟨2 + 1, by omega, rfl, by rw [HT.out, HSG.out]; simpa using hown, hbl⟩
        case measure => simp [intOf]
    · as_aux_lemma =>
      have hix : ∀ W : World, (Instr.index 250 (.agg (regsA x)) (.int .i64 3)).run Tryz.prog W = .ok (.int .i64 11) W := fun _ => by kernel_rfl
      have ho := offI_3 post
      have HT := Lib.hid (orderTo_succ post x 3)
      have hlen := orderTo_len post x 3
      have hbs := hbl.size
      have HSG := Lib.hid (show seg post x 3 = if off post 3 then [] else [⟨11, false⟩] from rfl)
      generalize orderTo post x 3 = L at *
      generalize off post 3 = o at *
      cases o
      · go_wp2_with (at_builtin; refine wpList_append_any _ rfl (.tmp 26) (.tmp 29) 206 rfl w.heap.size 219 i0 (.agg #[.int .i64 0, .bool false]) 2 16 Tryz.underlying206 hi hz0 hz1 hz2 rfl (by omega) u5 L.length (partsV L) rfl (hown.alloc _) (wr.heap.size + 1) (some ⟨wr.heap.size, 0, none⟩) 1 1 (partV (⟨11, false⟩ : Part)) rfl (Reads.newS wr _ #[.int .i64 11, .bool false] 1 2 _ rfl (by omega)) (part_one _) (by simp only [maxLen]; omega) (by omega) (Nat.le_trans hbs (by simp)) ?_; intro v1 w1 hown_v1 hg_v1 hat_v1)
        go_roundw
        case rel => exact ⟨3 + 1, by omega, rfl, by rw [HT.out, HSG.out]; simpa [partsV_append, partsV] using hown_v1, below_own (below_alloc' hbl) (hown.alloc _) hg_v1 (Nat.le_trans hbs (by simp))⟩
        case measure => simp [intOf]
      · go_wp2
        go_roundw
        case rel => exact ⟨3 + 1, by omega, rfl, by rw [HT.out, HSG.out]; simpa using hown, hbl⟩
        case measure => simp [intOf]
    · as_aux_lemma =>
      have hix : ∀ W : World, (Instr.index 250 (.agg (regsA x)) (.int .i64 4)).run Tryz.prog W = .ok (.int .i64 1) W := fun _ => by kernel_rfl
      have ho := offI_4 post
      have HT := Lib.hid (orderTo_succ post x 4)
      have hlen := orderTo_len post x 4
      have hbs := hbl.size
      have HSG := Lib.hid (show seg post x 4 = if off post 4 then [] else [⟨1, true⟩, ⟨1, false⟩] from rfl)
      generalize orderTo post x 4 = L at *
      generalize off post 4 = o at *
      cases o
      · go_wp2_with (first | (at_builtin; refine wpList_append_any _ rfl (.tmp 21) (.tmp 24) 206 rfl w.heap.size 219 i0 (.agg #[.int .i64 0, .bool false]) 2 16 Tryz.underlying206 hi hz0 hz1 hz2 rfl (by omega) u5 L.length (partsV L) rfl (hown.alloc _) (wr.heap.size + 1) (some ⟨wr.heap.size, 0, none⟩) 1 1 (partV (⟨1, true⟩ : Part)) rfl (Reads.newS wr _ #[.int .i64 1, .bool true] 1 2 _ rfl (by omega)) (part_one _) (by simp only [maxLen]; omega) (by omega) (Nat.le_trans hbs (by simp)) ?_; intro v1 w1 hown_v1 hg_v1 hat_v1; have hb1 := below_own (below_alloc' hbl) (hown.alloc _) hg_v1 (Nat.le_trans hbs (by simp)); have hbs1 := hb1.size; clear hg_v1 hat_v1) | (at_builtin; refine wpList_append_any _ rfl (.tmp 26) (.tmp 29) 206 rfl w.heap.size 219 i0 (.agg #[.int .i64 0, .bool false]) 2 16 Tryz.underlying206 hi hz0 hz1 hz2 rfl (by omega) v1 (L.length + 1) (partsV L ++ partV (⟨1, true⟩ : Part)) rfl (hown_v1.alloc _) (w1.heap.size + 1) (some ⟨w1.heap.size, 0, none⟩) 1 1 (partV (⟨1, false⟩ : Part)) rfl (Reads.newS w1 _ #[.int .i64 1, .bool false] 1 2 _ rfl (by omega)) (part_one _) (by simp only [maxLen]; omega) (by omega) (Nat.le_trans hbs1 (by simp)) ?_; intro v2 w2 hown_v2 hg_v2 hat_v2))
        go_roundw
        case rel => exact ⟨4 + 1, by omega, rfl, by rw [HT.out, HSG.out]; simpa [partsV_append, partsV] using hown_v2, below_own (below_alloc' hb1) (hown_v1.alloc _) hg_v2 (Nat.le_trans hbs1 (by simp))⟩
        case measure => simp [intOf]
      · go_wp2
        go_roundw
        case rel => exact ⟨4 + 1, by omega, rfl, by rw [HT.out, HSG.out]; simpa using hown, hbl⟩
        case measure => simp [intOf]
    · as_aux_lemma =>
      have hix : ∀ W : World, (Instr.index 250 (.agg (regsA x)) (.int .i64 5)).run Tryz.prog W = .ok (.int .i64 2) W := fun _ => by kernel_rfl
      have ho := offI_5 post
      have HT := Lib.hid (orderTo_succ post x 5)
      have hlen := orderTo_len post x 5
      have hbs := hbl.size
      have HSG := Lib.hid (show seg post x 5 = if off post 5 then [] else [⟨2, true⟩, ⟨2, false⟩] from rfl)
      generalize orderTo post x 5 = L at *
      generalize off post 5 = o at *
      cases o
      · go_wp2_with (first | (at_builtin; refine wpList_append_any _ rfl (.tmp 21) (.tmp 24) 206 rfl w.heap.size 219 i0 (.agg #[.int .i64 0, .bool false]) 2 16 Tryz.underlying206 hi hz0 hz1 hz2 rfl (by omega) u5 L.length (partsV L) rfl (hown.alloc _) (wr.heap.size + 1) (some ⟨wr.heap.size, 0, none⟩) 1 1 (partV (⟨2, true⟩ : Part)) rfl (Reads.newS wr _ #[.int .i64 2, .bool true] 1 2 _ rfl (by omega)) (part_one _) (by simp only [maxLen]; omega) (by omega) (Nat.le_trans hbs (by simp)) ?_; intro v1 w1 hown_v1 hg_v1 hat_v1; have hb1 := below_own (below_alloc' hbl) (hown.alloc _) hg_v1 (Nat.le_trans hbs (by simp)); have hbs1 := hb1.size; clear hg_v1 hat_v1) | (at_builtin; refine wpList_append_any _ rfl (.tmp 26) (.tmp 29) 206 rfl w.heap.size 219 i0 (.agg #[.int .i64 0, .bool false]) 2 16 Tryz.underlying206 hi hz0 hz1 hz2 rfl (by omega) v1 (L.length + 1) (partsV L ++ partV (⟨2, true⟩ : Part)) rfl (hown_v1.alloc _) (w1.heap.size + 1) (some ⟨w1.heap.size, 0, none⟩) 1 1 (partV (⟨2, false⟩ : Part)) rfl (Reads.newS w1 _ #[.int .i64 2, .bool false] 1 2 _ rfl (by omega)) (part_one _) (by simp only [maxLen]; omega) (by omega) (Nat.le_trans hbs1 (by simp)) ?_; intro v2 w2 hown_v2 hg_v2 hat_v2))
        go_roundw
        case rel => exact ⟨5 + 1, by omega, rfl, by rw [HT.out, HSG.out]; simpa [partsV_append, partsV] using hown_v2, below_own (below_alloc' hb1) (hown_v1.alloc _) hg_v2 (Nat.le_trans hbs1 (by simp))⟩
        case measure => simp [intOf]
      · go_wp2
        go_roundw
        case rel => exact ⟨5 + 1, by omega, rfl, by rw [HT.out, HSG.out]; simpa using hown, hbl⟩
        case measure => simp [intOf]
    · as_aux_lemma =>
      have hix : ∀ W : World, (Instr.index 250 (.agg (regsA x)) (.int .i64 6)).run Tryz.prog W = .ok (.int .i64 x) W := fun _ => by kernel_rfl
      have ho := offI_6 post
      have HT := Lib.hid (orderTo_succ post x 6)
      have hlen := orderTo_len post x 6
      have hbs := hbl.size
      have HSG := Lib.hid (show seg post x 6 = if off post 6 then [] else [⟨x, true⟩, ⟨x, false⟩] from rfl)
      generalize orderTo post x 6 = L at *
      generalize off post 6 = o at *
      cases o
      · go_wp2_with (first | (at_builtin; refine wpList_append_any _ rfl (.tmp 21) (.tmp 24) 206 rfl w.heap.size 219 i0 (.agg #[.int .i64 0, .bool false]) 2 16 Tryz.underlying206 hi hz0 hz1 hz2 rfl (by omega) u5 L.length (partsV L) rfl (hown.alloc _) (wr.heap.size + 1) (some ⟨wr.heap.size, 0, none⟩) 1 1 (partV (⟨x, true⟩ : Part)) rfl (Reads.newS wr _ #[.int .i64 x, .bool true] 1 2 _ rfl (by omega)) (part_one _) (by simp only [maxLen]; omega) (by omega) (Nat.le_trans hbs (by simp)) ?_; intro v1 w1 hown_v1 hg_v1 hat_v1; have hb1 := below_own (below_alloc' hbl) (hown.alloc _) hg_v1 (Nat.le_trans hbs (by simp)); have hbs1 := hb1.size; clear hg_v1 hat_v1) | (at_builtin; refine wpList_append_any _ rfl (.tmp 26) (.tmp 29) 206 rfl w.heap.size 219 i0 (.agg #[.int .i64 0, .bool false]) 2 16 Tryz.underlying206 hi hz0 hz1 hz2 rfl (by omega) v1 (L.length + 1) (partsV L ++ partV (⟨x, true⟩ : Part)) rfl (hown_v1.alloc _) (w1.heap.size + 1) (some ⟨w1.heap.size, 0, none⟩) 1 1 (partV (⟨x, false⟩ : Part)) rfl (Reads.newS w1 _ #[.int .i64 x, .bool false] 1 2 _ rfl (by omega)) (part_one _) (by simp only [maxLen]; omega) (by omega) (Nat.le_trans hbs1 (by simp)) ?_; intro v2 w2 hown_v2 hg_v2 hat_v2))
        go_roundw
        case rel => exact ⟨6 + 1, by omega, rfl, by rw [HT.out, HSG.out]; simpa [partsV_append, partsV] using hown_v2, below_own (below_alloc' hb1) (hown_v1.alloc _) hg_v2 (Nat.le_trans hbs1 (by simp))⟩
        case measure => simp [intOf]
      · go_wp2
        go_roundw
        case rel => exact ⟨6 + 1, by omega, rfl, by rw [HT.out, HSG.out]; simpa using hown, hbl⟩
        case measure => simp [intOf]
    · as_aux_lemma =>
      have hix : ∀ W : World, (Instr.index 250 (.agg (regsA x)) (.int .i64 7)).run Tryz.prog W = .ok (.int .i64 5) W := fun _ => by kernel_rfl
      have ho := offI_7 post
      have HT := Lib.hid (orderTo_succ post x 7)
      have hlen := orderTo_len post x 7
      have hbs := hbl.size
      have HSG := Lib.hid (show seg post x 7 = if off post 7 then [] else [⟨5, true⟩, ⟨5, false⟩] from rfl)
      generalize orderTo post x 7 = L at *
      generalize off post 7 = o at *
      cases o
      · go_wp2_with (first | (at_builtin; refine wpList_append_any _ rfl (.tmp 21) (.tmp 24) 206 rfl w.heap.size 219 i0 (.agg #[.int .i64 0, .bool false]) 2 16 Tryz.underlying206 hi hz0 hz1 hz2 rfl (by omega) u5 L.length (partsV L) rfl (hown.alloc _) (wr.heap.size + 1) (some ⟨wr.heap.size, 0, none⟩) 1 1 (partV (⟨5, true⟩ : Part)) rfl (Reads.newS wr _ #[.int .i64 5, .bool true] 1 2 _ rfl (by omega)) (part_one _) (by simp only [maxLen]; omega) (by omega) (Nat.le_trans hbs (by simp)) ?_; intro v1 w1 hown_v1 hg_v1 hat_v1; have hb1 := below_own (below_alloc' hbl) (hown.alloc _) hg_v1 (Nat.le_trans hbs (by simp)); have hbs1 := hb1.size; clear hg_v1 hat_v1) | (at_builtin; refine wpList_append_any _ rfl (.tmp 26) (.tmp 29) 206 rfl w.heap.size 219 i0 (.agg #[.int .i64 0, .bool false]) 2 16 Tryz.underlying206 hi hz0 hz1 hz2 rfl (by omega) v1 (L.length + 1) (partsV L ++ partV (⟨5, true⟩ : Part)) rfl (hown_v1.alloc _) (w1.heap.size + 1) (some ⟨w1.heap.size, 0, none⟩) 1 1 (partV (⟨5, false⟩ : Part)) rfl (Reads.newS w1 _ #[.int .i64 5, .bool false] 1 2 _ rfl (by omega)) (part_one _) (by simp only [maxLen]; omega) (by omega) (Nat.le_trans hbs1 (by simp)) ?_; intro v2 w2 hown_v2 hg_v2 hat_v2))
        go_roundw
        case rel => exact ⟨7 + 1, by omega, rfl, by rw [HT.out, HSG.out]; simpa [partsV_append, partsV] using hown_v2, below_own (below_alloc' hb1) (hown_v1.alloc _) hg_v2 (Nat.le_trans hbs1 (by simp))⟩
        case measure => simp [intOf]
      · go_wp2
        go_roundw
        case rel => exact ⟨7 + 1, by omega, rfl, by rw [HT.out, HSG.out]; simpa using hown, hbl⟩
        case measure => simp [intOf]
end Go.Proofs.YtkdaphkpllgmbaaGreat
namespace Go.Proofs.YtkdaphkpllgmbaaGreat
open Go.RowKit Sp
set_option linter.unusedVariables false
def stepV (s : Step) : List Value := [.int .i64 s.kind, .bool s.busy]
def stepsV (l : List Step) : List Value := l.flatMap stepV
theorem stepsV_append (l m : List Step) : stepsV (l ++ m) = stepsV l ++ stepsV m := by simp [stepsV]
theorem step_len : ∀ y : Step, (stepV y).length = 2 := fun _ => rfl
theorem stepsV_length (l : List Step) : (stepsV l).length = l.length * 2 := flat_length step_len l
theorem steps_one (l : List Step) : ∀ u ∈ stepsV l, u.oneCell' = true := by
  intro u hu
  unfold stepsV at hu
  rw [List.mem_flatMap] at hu
  obtain ⟨s, _, hs⟩ := hu
  simp [stepV] at hs
  rcases hs with rfl | rfl <;> rfl
def OwnSteps (l : List Step) (w : World) (e : Ending) (w' : World) : Prop := ∃ v, e = .returned v ∧ w'.ownsRow w.heap.size 202 2 v l.length (stepsV l) ∧ Below w.heap.size w w'
theorem stepZero : (Tryz.prog.info? 202).map (fun i => (i.zero, i.size, i.bytes)) = some (some (.agg #[.int .i64 0, .bool false]), 2, 16) := by kernel_rfl
theorem stepSize : (Tryz.prog.info? 202).map (·.size) = some 2 := by kernel_rfl
theorem mul64_0 (w : World) : Calls Tryz.prog 257 #[.int .u64 1, .int .u64 0] w fun e w' => e = .returned (.tuple #[.int .u64 0, .int .u64 0]) ∧ w = w' := by
  have m1 : Go.bits .and .u64 1 4294967295 = 1 := by decide
  have m0 : Go.bits .and .u64 0 4294967295 = 0 := by decide
  have mk : Go.bits .and .u64 0 4294967295 = 0 := by decide
  go_enter Tryz.func257, Tryz.ntmps257
  go_wp2
  go_ret2
  exact ⟨rfl, rfl⟩
theorem mul_0 (w : World) : Calls Tryz.prog 221 #[.int .u64 1, .int .u64 0] w fun e w' => e = .returned (.tuple #[.int .u64 0, .int .u64 0]) ∧ w = w' := by
  go_enter Tryz.func221, Tryz.ntmps221
  go_wp2_with (go_at_call 257; refine (mul64_0 _).mono ?_; rintro e w1 ⟨rfl, rfl⟩)
  go_ret2
  exact ⟨rfl, rfl⟩
theorem mul64_1 (w : World) : Calls Tryz.prog 257 #[.int .u64 1, .int .u64 1] w fun e w' => e = .returned (.tuple #[.int .u64 0, .int .u64 1]) ∧ w = w' := by
  have m1 : Go.bits .and .u64 1 4294967295 = 1 := by decide
  have m0 : Go.bits .and .u64 0 4294967295 = 0 := by decide
  have mk : Go.bits .and .u64 1 4294967295 = 1 := by decide
  go_enter Tryz.func257, Tryz.ntmps257
  go_wp2
  go_ret2
  exact ⟨rfl, rfl⟩
theorem mul_1 (w : World) : Calls Tryz.prog 221 #[.int .u64 1, .int .u64 1] w fun e w' => e = .returned (.tuple #[.int .u64 0, .int .u64 1]) ∧ w = w' := by
  go_enter Tryz.func221, Tryz.ntmps221
  go_wp2_with (go_at_call 257; refine (mul64_1 _).mono ?_; rintro e w1 ⟨rfl, rfl⟩)
  go_ret2
  exact ⟨rfl, rfl⟩
theorem mul64_2 (w : World) : Calls Tryz.prog 257 #[.int .u64 1, .int .u64 2] w fun e w' => e = .returned (.tuple #[.int .u64 0, .int .u64 2]) ∧ w = w' := by
  have m1 : Go.bits .and .u64 1 4294967295 = 1 := by decide
  have m0 : Go.bits .and .u64 0 4294967295 = 0 := by decide
  have mk : Go.bits .and .u64 2 4294967295 = 2 := by decide
  go_enter Tryz.func257, Tryz.ntmps257
  go_wp2
  go_ret2
  exact ⟨rfl, rfl⟩
theorem mul_2 (w : World) : Calls Tryz.prog 221 #[.int .u64 1, .int .u64 2] w fun e w' => e = .returned (.tuple #[.int .u64 0, .int .u64 2]) ∧ w = w' := by
  go_enter Tryz.func221, Tryz.ntmps221
  go_wp2_with (go_at_call 257; refine (mul64_2 _).mono ?_; rintro e w1 ⟨rfl, rfl⟩)
  go_ret2
  exact ⟨rfl, rfl⟩
theorem mul64_3 (w : World) : Calls Tryz.prog 257 #[.int .u64 1, .int .u64 3] w fun e w' => e = .returned (.tuple #[.int .u64 0, .int .u64 3]) ∧ w = w' := by
  have m1 : Go.bits .and .u64 1 4294967295 = 1 := by decide
  have m0 : Go.bits .and .u64 0 4294967295 = 0 := by decide
  have mk : Go.bits .and .u64 3 4294967295 = 3 := by decide
  go_enter Tryz.func257, Tryz.ntmps257
  go_wp2
  go_ret2
  exact ⟨rfl, rfl⟩
theorem mul_3 (w : World) : Calls Tryz.prog 221 #[.int .u64 1, .int .u64 3] w fun e w' => e = .returned (.tuple #[.int .u64 0, .int .u64 3]) ∧ w = w' := by
  go_enter Tryz.func221, Tryz.ntmps221
  go_wp2_with (go_at_call 257; refine (mul64_3 _).mono ?_; rintro e w1 ⟨rfl, rfl⟩)
  go_ret2
  exact ⟨rfl, rfl⟩
theorem mul64_4 (w : World) : Calls Tryz.prog 257 #[.int .u64 1, .int .u64 4] w fun e w' => e = .returned (.tuple #[.int .u64 0, .int .u64 4]) ∧ w = w' := by
  have m1 : Go.bits .and .u64 1 4294967295 = 1 := by decide
  have m0 : Go.bits .and .u64 0 4294967295 = 0 := by decide
  have mk : Go.bits .and .u64 4 4294967295 = 4 := by decide
  go_enter Tryz.func257, Tryz.ntmps257
  go_wp2
  go_ret2
  exact ⟨rfl, rfl⟩
theorem mul_4 (w : World) : Calls Tryz.prog 221 #[.int .u64 1, .int .u64 4] w fun e w' => e = .returned (.tuple #[.int .u64 0, .int .u64 4]) ∧ w = w' := by
  go_enter Tryz.func221, Tryz.ntmps221
  go_wp2_with (go_at_call 257; refine (mul64_4 _).mono ?_; rintro e w1 ⟨rfl, rfl⟩)
  go_ret2
  exact ⟨rfl, rfl⟩
theorem mul64_5 (w : World) : Calls Tryz.prog 257 #[.int .u64 1, .int .u64 5] w fun e w' => e = .returned (.tuple #[.int .u64 0, .int .u64 5]) ∧ w = w' := by
  have m1 : Go.bits .and .u64 1 4294967295 = 1 := by decide
  have m0 : Go.bits .and .u64 0 4294967295 = 0 := by decide
  have mk : Go.bits .and .u64 5 4294967295 = 5 := by decide
  go_enter Tryz.func257, Tryz.ntmps257
  go_wp2
  go_ret2
  exact ⟨rfl, rfl⟩
theorem mul_5 (w : World) : Calls Tryz.prog 221 #[.int .u64 1, .int .u64 5] w fun e w' => e = .returned (.tuple #[.int .u64 0, .int .u64 5]) ∧ w = w' := by
  go_enter Tryz.func221, Tryz.ntmps221
  go_wp2_with (go_at_call 257; refine (mul64_5 _).mono ?_; rintro e w1 ⟨rfl, rfl⟩)
  go_ret2
  exact ⟨rfl, rfl⟩
theorem mul64_6 (w : World) : Calls Tryz.prog 257 #[.int .u64 1, .int .u64 6] w fun e w' => e = .returned (.tuple #[.int .u64 0, .int .u64 6]) ∧ w = w' := by
  have m1 : Go.bits .and .u64 1 4294967295 = 1 := by decide
  have m0 : Go.bits .and .u64 0 4294967295 = 0 := by decide
  have mk : Go.bits .and .u64 6 4294967295 = 6 := by decide
  go_enter Tryz.func257, Tryz.ntmps257
  go_wp2
  go_ret2
  exact ⟨rfl, rfl⟩
theorem mul_6 (w : World) : Calls Tryz.prog 221 #[.int .u64 1, .int .u64 6] w fun e w' => e = .returned (.tuple #[.int .u64 0, .int .u64 6]) ∧ w = w' := by
  go_enter Tryz.func221, Tryz.ntmps221
  go_wp2_with (go_at_call 257; refine (mul64_6 _).mono ?_; rintro e w1 ⟨rfl, rfl⟩)
  go_ret2
  exact ⟨rfl, rfl⟩
theorem mul64_7 (w : World) : Calls Tryz.prog 257 #[.int .u64 1, .int .u64 7] w fun e w' => e = .returned (.tuple #[.int .u64 0, .int .u64 7]) ∧ w = w' := by
  have m1 : Go.bits .and .u64 1 4294967295 = 1 := by decide
  have m0 : Go.bits .and .u64 0 4294967295 = 0 := by decide
  have mk : Go.bits .and .u64 7 4294967295 = 7 := by decide
  go_enter Tryz.func257, Tryz.ntmps257
  go_wp2
  go_ret2
  exact ⟨rfl, rfl⟩
theorem mul_7 (w : World) : Calls Tryz.prog 221 #[.int .u64 1, .int .u64 7] w fun e w' => e = .returned (.tuple #[.int .u64 0, .int .u64 7]) ∧ w = w' := by
  go_enter Tryz.func221, Tryz.ntmps221
  go_wp2_with (go_at_call 257; refine (mul64_7 _).mono ?_; rintro e w1 ⟨rfl, rfl⟩)
  go_ret2
  exact ⟨rfl, rfl⟩
theorem mul64_8 (w : World) : Calls Tryz.prog 257 #[.int .u64 1, .int .u64 8] w fun e w' => e = .returned (.tuple #[.int .u64 0, .int .u64 8]) ∧ w = w' := by
  have m1 : Go.bits .and .u64 1 4294967295 = 1 := by decide
  have m0 : Go.bits .and .u64 0 4294967295 = 0 := by decide
  have mk : Go.bits .and .u64 8 4294967295 = 8 := by decide
  go_enter Tryz.func257, Tryz.ntmps257
  go_wp2
  go_ret2
  exact ⟨rfl, rfl⟩
theorem mul_8 (w : World) : Calls Tryz.prog 221 #[.int .u64 1, .int .u64 8] w fun e w' => e = .returned (.tuple #[.int .u64 0, .int .u64 8]) ∧ w = w' := by
  go_enter Tryz.func221, Tryz.ntmps221
  go_wp2_with (go_at_call 257; refine (mul64_8 _).mono ?_; rintro e w1 ⟨rfl, rfl⟩)
  go_ret2
  exact ⟨rfl, rfl⟩
theorem mul64_9 (w : World) : Calls Tryz.prog 257 #[.int .u64 1, .int .u64 9] w fun e w' => e = .returned (.tuple #[.int .u64 0, .int .u64 9]) ∧ w = w' := by
  have m1 : Go.bits .and .u64 1 4294967295 = 1 := by decide
  have m0 : Go.bits .and .u64 0 4294967295 = 0 := by decide
  have mk : Go.bits .and .u64 9 4294967295 = 9 := by decide
  go_enter Tryz.func257, Tryz.ntmps257
  go_wp2
  go_ret2
  exact ⟨rfl, rfl⟩
theorem mul_9 (w : World) : Calls Tryz.prog 221 #[.int .u64 1, .int .u64 9] w fun e w' => e = .returned (.tuple #[.int .u64 0, .int .u64 9]) ∧ w = w' := by
  go_enter Tryz.func221, Tryz.ntmps221
  go_wp2_with (go_at_call 257; refine (mul64_9 _).mono ?_; rintro e w1 ⟨rfl, rfl⟩)
  go_ret2
  exact ⟨rfl, rfl⟩
theorem mul64_10 (w : World) : Calls Tryz.prog 257 #[.int .u64 1, .int .u64 10] w fun e w' => e = .returned (.tuple #[.int .u64 0, .int .u64 10]) ∧ w = w' := by
  have m1 : Go.bits .and .u64 1 4294967295 = 1 := by decide
  have m0 : Go.bits .and .u64 0 4294967295 = 0 := by decide
  have mk : Go.bits .and .u64 10 4294967295 = 10 := by decide
  go_enter Tryz.func257, Tryz.ntmps257
  go_wp2
  go_ret2
  exact ⟨rfl, rfl⟩
theorem mul_10 (w : World) : Calls Tryz.prog 221 #[.int .u64 1, .int .u64 10] w fun e w' => e = .returned (.tuple #[.int .u64 0, .int .u64 10]) ∧ w = w' := by
  go_enter Tryz.func221, Tryz.ntmps221
  go_wp2_with (go_at_call 257; refine (mul64_10 _).mono ?_; rintro e w1 ⟨rfl, rfl⟩)
  go_ret2
  exact ⟨rfl, rfl⟩
theorem mul64_11 (w : World) : Calls Tryz.prog 257 #[.int .u64 1, .int .u64 11] w fun e w' => e = .returned (.tuple #[.int .u64 0, .int .u64 11]) ∧ w = w' := by
  have m1 : Go.bits .and .u64 1 4294967295 = 1 := by decide
  have m0 : Go.bits .and .u64 0 4294967295 = 0 := by decide
  have mk : Go.bits .and .u64 11 4294967295 = 11 := by decide
  go_enter Tryz.func257, Tryz.ntmps257
  go_wp2
  go_ret2
  exact ⟨rfl, rfl⟩
theorem mul_11 (w : World) : Calls Tryz.prog 221 #[.int .u64 1, .int .u64 11] w fun e w' => e = .returned (.tuple #[.int .u64 0, .int .u64 11]) ∧ w = w' := by
  go_enter Tryz.func221, Tryz.ntmps221
  go_wp2_with (go_at_call 257; refine (mul64_11 _).mono ?_; rintro e w1 ⟨rfl, rfl⟩)
  go_ret2
  exact ⟨rfl, rfl⟩
theorem mul64_12 (w : World) : Calls Tryz.prog 257 #[.int .u64 1, .int .u64 12] w fun e w' => e = .returned (.tuple #[.int .u64 0, .int .u64 12]) ∧ w = w' := by
  have m1 : Go.bits .and .u64 1 4294967295 = 1 := by decide
  have m0 : Go.bits .and .u64 0 4294967295 = 0 := by decide
  have mk : Go.bits .and .u64 12 4294967295 = 12 := by decide
  go_enter Tryz.func257, Tryz.ntmps257
  go_wp2
  go_ret2
  exact ⟨rfl, rfl⟩
theorem mul_12 (w : World) : Calls Tryz.prog 221 #[.int .u64 1, .int .u64 12] w fun e w' => e = .returned (.tuple #[.int .u64 0, .int .u64 12]) ∧ w = w' := by
  go_enter Tryz.func221, Tryz.ntmps221
  go_wp2_with (go_at_call 257; refine (mul64_12 _).mono ?_; rintro e w1 ⟨rfl, rfl⟩)
  go_ret2
  exact ⟨rfl, rfl⟩
theorem mul_le (n : Nat) (hn : n ≤ 12) (w : World) : Calls Tryz.prog 221 #[.int .u64 1, .int .u64 (n : Int)] w fun e w' => e = .returned (.tuple #[.int .u64 0, .int .u64 (n : Int)]) ∧ w = w' := by
  rcases (show n = 0 ∨ n = 1 ∨ n = 2 ∨ n = 3 ∨ n = 4 ∨ n = 5 ∨ n = 6 ∨ n = 7 ∨ n = 8 ∨ n = 9 ∨ n = 10 ∨ n = 11 ∨ n = 12 from by omega) with rfl | rfl | rfl | rfl | rfl | rfl | rfl | rfl | rfl | rfl | rfl | rfl | rfl
  · exact mul_0 w
  · exact mul_1 w
  · exact mul_2 w
  · exact mul_3 w
  · exact mul_4 w
  · exact mul_5 w
  · exact mul_6 w
  · exact mul_7 w
  · exact mul_8 w
  · exact mul_9 w
  · exact mul_10 w
  · exact mul_11 w
  · exact mul_12 w
end Go.Proofs.YtkdaphkpllgmbaaGreat
namespace Go.Proofs.YtkdaphkpllgmbaaGreat
open Go.RowKit Sp
set_option linter.unusedVariables false
def step0 : Step := ⟨0, false⟩
def fillL (s : Step) (n k : Nat) : List Value := stepsV (List.replicate k s) ++ stepsV (List.replicate (n - k) step0)
theorem fillL_len (s : Step) (n k : Nat) (h : k ≤ n) : (fillL s n k).length = n * 2 := by simp only [fillL, List.length_append, stepsV_length, List.length_replicate]; omega
theorem fillL_all (s : Step) (n : Nat) : fillL s n n = stepsV (List.replicate n s) := by simp [fillL, stepsV]
theorem rep_add {α : Type} (a b c : Nat) (x : α) (h : a + b = c) : List.replicate c x = List.replicate a x ++ List.replicate b x := by rw [List.replicate_append_replicate, h]
theorem fillL_splice (s : Step) (n k m : Nat) (h : k + m ≤ n) : splice (fillL s n k) (k * 2) (stepsV (List.replicate m s)) = fillL s n (k + m) := by
  have e1 : (stepsV (List.replicate k s)).length = k * 2 := by rw [stepsV_length, List.length_replicate]
  have e3 : fillL s n k = stepsV (List.replicate k s) ++ (stepsV (List.replicate m step0) ++ stepsV (List.replicate (n - (k + m)) step0)) := by
    unfold fillL
    rw [rep_add m (n - (k + m)) (n - k) step0 (by omega), stepsV_append]
  have e4 : (stepsV (List.replicate m s)).length = m * 2 := by rw [stepsV_length, List.length_replicate]
  have e5 : (stepsV (List.replicate m step0)).length = m * 2 := by rw [stepsV_length, List.length_replicate]
  have e6 : fillL s n (k + m) = stepsV (List.replicate k s) ++ (stepsV (List.replicate m s) ++ stepsV (List.replicate (n - (k + m)) step0)) := by
    unfold fillL
    rw [rep_add k m (k + m) s rfl, stepsV_append, List.append_assoc]
  unfold splice
  rw [e6, e4, e3, List.take_left' e1]
  have e7 : (stepsV (List.replicate k s) ++ (stepsV (List.replicate m step0) ++ stepsV (List.replicate (n - (k + m)) step0))).drop (k * 2 + m * 2) = stepsV (List.replicate (n - (k + m)) step0) := by
    rw [← List.append_assoc]
    exact List.drop_left' (by simp only [List.length_append, e1, e5])
  rw [e7]
theorem made_steps (n : Nat) (h : n ≤ 12) : madeCells #[.int .i64 0, .bool false] (n * 2) = (fillL step0 n 0).toArray := by
  rcases (show n = 0 ∨ n = 1 ∨ n = 2 ∨ n = 3 ∨ n = 4 ∨ n = 5 ∨ n = 6 ∨ n = 7 ∨ n = 8 ∨ n = 9 ∨ n = 10 ∨ n = 11 ∨ n = 12 from by omega) with rfl | rfl | rfl | rfl | rfl | rfl | rfl | rfl | rfl | rfl | rfl | rfl | rfl <;> kernel_rfl
theorem fillL_zero (s : Step) (n : Nat) : fillL s n 0 = fillL step0 n 0 := rfl
theorem fillL_get (s : Step) (n k m : Nat) (h : m ≤ k) (j : Nat) (v : Value) (hj : (stepsV (List.replicate m s))[j]? = some v) : (fillL s n k)[j]? = some v := by
  have hl : j < (stepsV (List.replicate m s)).length := (List.getElem?_eq_some_iff.1 hj).1
  have e : fillL s n k = stepsV (List.replicate m s) ++ (stepsV (List.replicate (k - m) s) ++ stepsV (List.replicate (n - k) step0)) := by
    unfold fillL
    rw [rep_add m (k - m) k s (by omega), stepsV_append, List.append_assoc]
  rw [e, List.getElem?_append_left hl]
  exact hj
set_option maxRecDepth 100000 in
set_option maxHeartbeats 2000000 in
theorem Repeat_t (s : Step) (ad : Addr) (c n B : Nat) (w : World) (hr : Reads w B 2 (some ad) 1 (stepsV [s])) (hB : B ≤ w.heap.size) (hn : n ≤ 12) :
    Calls Tryz.prog 185 #[.slice (some ad) 1 c, .int .i64 (n : Int)] w (OwnSteps (List.replicate n s) w) := by
  obtain ⟨i0, hi, hz0, hz1, hz2⟩ := info_parts stepZero
  have hmk : ∀ u : World, (Instr.makeSlice 214 (.int .i64 (n : Int)) (.int .i64 (n : Int))).run Tryz.prog u =
      .ok (.slice (some ⟨u.heap.size, 0, none⟩) n n) (u.alloc (.cells (fillL step0 n 0).toArray 202)) := fun u => by
    have h := run_make (P := Tryz.prog) u 214 202 i0 (.agg #[.int .i64 0, .bool false]) Tryz.underlying214 hi hz0 .i64 .i64 (n : Int) (n : Int) (by omega) (by omega) (by rw [hz2]; omega) (by omega)
    rw [← made_steps n hn]
    simpa [hz1, Value.cells, Nat.mul_comm] using h
  have hlen := fillL_len step0 n 0 (by omega)
  have HF0 := Lib.hid (fillL_splice s n 0 (Nat.min 1 n) (by rw [Nat.zero_add]; exact Nat.min_le_right 1 n))
  rw [fillL_zero s n] at HF0
  generalize fillL step0 n 0 = Z at *
  have hcut : (0 : Int) ≤ (n : Int) := by omega
  have hn64 : (n : Int) ≤ 12 := by omega
  have HM := Lib.hid (fun W => mul_le n hn W)
  go_enter Tryz.func185, Tryz.ntmps185
  have hmin : (stepsV (List.replicate (Nat.min 1 n) s)).length = Nat.min 1 n * 2 := by rw [stepsV_length, List.length_replicate]
  have hfit : 0 + (stepsV (List.replicate (Nat.min 1 n) s)).length ≤ Z.length := by
    have : Nat.min 1 n ≤ n := Nat.min_le_right 1 n
    rw [hmin, hlen]; omega
  have hsrc : ∀ (j : Nat) (v : Value), (stepsV (List.replicate (Nat.min 1 n) s))[j]? = some v → w.cell? (ad.add j) = some v := by
    intro j v hj
    obtain ⟨ad', e, _, hc⟩ := hr.2 (by omega)
    obtain rfl := Option.some.inj e
    refine hc j v ?_
    rcases Nat.eq_zero_or_pos n with rfl | h
    · simp [stepsV] at hj
    · rw [show Nat.min 1 n = 1 from Nat.min_eq_left h] at hj; exact hj
  have hadB : ad.block < w.heap.size := by obtain ⟨ad', e, hb, _⟩ := hr.2 (by omega); obtain rfl := Option.some.inj e; omega
  have hone := steps_one (List.replicate (Nat.min 1 n) s)
  have hk1 : Nat.min 1 n ≤ n := Nat.min_le_right 1 n
  have hk0 : 0 < n → 0 < Nat.min 1 n := fun h => by show 0 < min 1 n; omega
  obtain ⟨C, hC⟩ : ∃ C, stepsV (List.replicate (Nat.min 1 n) s) = C := ⟨_, rfl⟩
  rw [hC] at hmin hfit hsrc hone HF0
  obtain ⟨k0, hkk⟩ : ∃ k0, Nat.min 1 n = k0 := ⟨_, rfl⟩
  rw [hkk] at hmin hk1 hk0 HF0
  have HK0 := Lib.hid hkk
  clear hkk
  have HS := Lib.hid hsrc
  have HL := Lib.hid hlen
  have HMIN := Lib.hid hmin
  have HFIT := Lib.hid hfit
  clear hC hsrc hmin hfit hlen hr
  go_wp2_with (first | (go_at_call 221; refine (HM.out _).mono ?_; rintro e w1 ⟨rfl, rfl⟩) | (with_reducible refine wpList_copy_spliceS rfl (.tmp 31) (.tmp 32) 214 214 rfl 202 2 Tryz.underlying214 stepSize (by omega) (some ⟨w.heap.size, 0, none⟩) (some ad) n n 1 c rfl rfl w.heap.size 0 Z 202 (heap_alloc_new w _) C k0 HK0.out HMIN.out (fun _ => ⟨rfl, ad, rfl, fun j v hj => ((below_alloc (Below.refl w.heap.size w) _).cell (p := ad.add j) (by rw [block_of_add]; exact hadB)).trans (HS.out j v hj)⟩) HFIT.out hone w.heap.size w (below_alloc (Below.refl _ _) _) (Nat.le_refl _) ?_; intro w2 HG2 hB2))
  have HG : Hid (w2.heap[w.heap.size]? = some (.cells (fillL s n k0).toArray 202 (0, 0))) := by
    have := HG2.out
    have e := HF0.out
    rw [Nat.zero_mul, Nat.zero_add] at e
    rw [e] at this
    exact Lib.hid this
  clear HG2 HF0 HS HL HMIN HFIT hone
  go_loopw [8] (fun i wr => ∃ k : Nat, k ≤ n ∧ (0 < n → 0 < k) ∧ i = .int .i64 k ∧ Hid (wr.heap[w.heap.size]? = some (.cells (fillL s n k).toArray 202 (0, 0))) ∧ Below w.heap.size w wr) (fun i _ => n - (intOf i).toNat)
  case atStart => exact ⟨k0, hk1, hk0, rfl, HG, hB2⟩
  case round =>
    obtain ⟨k, hk, hkp, rfl, HG, hbl⟩ := hrel
    by_cases hlt : k < n
    · have hkp := hkp (by omega)
      have HSP := Lib.hid (fillL_splice s n k (Nat.min k (n - k)) (by have : Nat.min k (n - k) ≤ n - k := Nat.min_le_right _ _; omega))
      have hml : Nat.min k (n - k) ≤ k := Nat.min_le_left _ _
      have hmr : Nat.min k (n - k) ≤ n - k := Nat.min_le_right _ _
      have hm0 : 0 < Nat.min k (n - k) := by show 0 < min k (n - k); omega
      have hlen := fillL_len s n k hk
      have hone := steps_one (List.replicate (Nat.min k (n - k)) s)
      have hCl : (stepsV (List.replicate (Nat.min k (n - k)) s)).length = Nat.min k (n - k) * 2 := by rw [stepsV_length, List.length_replicate]
      have hsrc : ∀ (j : Nat) (v : Value), (stepsV (List.replicate (Nat.min k (n - k)) s))[j]? = some v → wr.cell? ⟨w.heap.size, j, none⟩ = some v := by
        intro j v hj
        have hb : Blk wr w.heap.size 202 (fillL s n k).toArray := HG.out
        rw [hb.cell j]
        simpa using fillL_get s n k _ hml j v hj
      have HSRC := Lib.hid hsrc
      have HLEN := Lib.hid hlen
      have HCL := Lib.hid hCl
      obtain ⟨C, hC⟩ : ∃ C, stepsV (List.replicate (Nat.min k (n - k)) s) = C := ⟨_, rfl⟩
      rw [hC] at HSP HSRC HCL hone
      obtain ⟨m, hmm⟩ : ∃ m, Nat.min k (n - k) = m := ⟨_, rfl⟩
      rw [hmm] at HSP HCL hml hmr hm0
      have HMM := Lib.hid hmm
      clear hsrc hlen hCl hC hmm
      have hw : IntKind.i64.wrap ((k : Int) + (m : Int)) = (k : Int) + (m : Int) := by rw [IntKind.wrap_i64]; omega
      go_wp2
      go_region_law (refine step_copy_spliceS rfl (.tmp 41) (.tmp 44) 214 214 rfl 202 2 Tryz.underlying214 stepSize (by omega) (some ⟨w.heap.size, k * 2, none⟩) (some ⟨w.heap.size, 0, none⟩) (n - k) (n - k) k n (by simp [Act.eval, Act.put]; omega) (by simp [Act.eval, Act.put]) w.heap.size (k * 2) (fillL s n k) 202 HG.out C m HMM.out HCL.out (fun _ => ⟨rfl, _, rfl, fun j v hj => by rw [addr_add0]; exact HSRC.out j v hj⟩) (by rw [HCL.out, HLEN.out]; omega) hone w.heap.size w hbl.drew (Nat.le_refl _) ?_; intro w2 HG2 hB2)
      go_wp2
      go_roundw
      case rel => exact ⟨k + m, by omega, by omega, by omega, by have := HG2.out; rw [HSP.out] at this; exact Lib.hid this⟩
      case measure => simp [intOf]; omega
    · obtain rfl : k = n := by omega
      clear hk hkp
      go_wp2
      go_ret
      refine ⟨_, rfl, ?_, hbl⟩
      rw [List.length_replicate]
      refine ⟨by rw [stepsV_length, List.length_replicate], .inr ⟨w.heap.size, k, _, rfl, Nat.le_refl _, HG.out, Nat.le_refl _, by simp only [maxLen]; omega, by simp [fillL_len], ?_⟩⟩
      rw [fillL_all, List.take_of_length_le (by simp [stepsV_length])]
end Go.Proofs.YtkdaphkpllgmbaaGreat

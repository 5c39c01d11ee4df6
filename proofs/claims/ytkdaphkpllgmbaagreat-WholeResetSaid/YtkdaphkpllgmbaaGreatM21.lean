/-
  Contract of page.Of, of page.Prefix.
  What holds of the core between two cycles: whatever its queue wants to push or pull is in its list. Pure: no program in sight.
  The processor: what holds between two cycles; RESET, and three cycles behind it. Pure.
  Rows are short. Pure.
-/
import Derived.Test.YtkdaphkpllgmbaaGreatM20
import Derived.Test.YtkdaphkpllgmbaaGreatM01
namespace Go.Proofs.YtkdaphkpllgmbaaGreat
open Go.RowKit Sp
attribute [local go_sem] Ent.v Ent.cells
theorem low_lt (code : Int) (h : 0 ≤ code ∧ code < 256) : 0 ≤ Go.bits .and .u8 code 15 ∧ Go.bits .and .u8 code 15 < 16 := by
  obtain ⟨n, rfl⟩ := Int.eq_ofNat_of_zero_le h.1
  have key : ∀ n : Fin 256, 0 ≤ Go.bits .and .u8 (n.val : Int) 15 ∧ Go.bits .and .u8 (n.val : Int) 15 < 16 := by decide +kernel
  exact key ⟨n, by omega⟩
theorem high_lt (code : Int) (h : 0 ≤ code ∧ code < 256) : 0 ≤ code / 16 ∧ code / 16 < 16 := by omega
theorem pageFirst_any (code H L : Int) (w : World) (h : 0 ≤ code ∧ code < 256) (hH : code / 16 = H) (hL : Go.bits .and .u8 code 15 = L) :
    Calls Tryz.prog 186 #[.int .u8 code] w fun e w' => e = .returned (pageFirst H L).v ∧ Below w.heap.size w w' := by
  subst hH hL
  have hl := low_lt code h
  rcases nib _ (high_lt code h) with e | e | e | e | e | e | e | e | e | e | e | e | e | e | e | e <;> rw [e]
  · exact pageFirst_0 code _ w e rfl hl
  · exact pageFirst_1 code _ w e rfl hl
  · exact pageFirst_2 code _ w e rfl hl
  · exact pageFirst_3 code _ w e rfl hl
  · exact pageFirst_4 code _ w e rfl hl
  · exact pageFirst_5 code _ w e rfl hl
  · exact pageFirst_6 code _ w e rfl hl
  · exact pageFirst_7 code _ w e rfl hl
  · exact pageFirst_8 code _ w e rfl hl
  · exact pageFirst_9 code _ w e rfl hl
  · exact pageFirst_10 code _ w e rfl hl
  · exact pageFirst_11 code _ w e rfl hl
  · exact pageFirst_12 code _ w e rfl hl
  · exact pageFirst_13 code _ w e rfl hl
  · exact pageFirst_14 code _ w e rfl hl
  · exact pageFirst_15 code _ w e rfl hl
theorem pageSecond_any (code H L : Int) (w : World) (h : 0 ≤ code ∧ code < 256) (hH : code / 16 = H) (hL : Go.bits .and .u8 code 15 = L) :
    Calls Tryz.prog 187 #[.int .u8 code] w fun e w' => e = .returned (pageSecond H L).v ∧ Below w.heap.size w w' := by
  subst hH hL
  have hl := low_lt code h
  rcases nib _ (high_lt code h) with e | e | e | e | e | e | e | e | e | e | e | e | e | e | e | e <;> rw [e]
  · exact pageSecond_0 code _ w e rfl hl
  · exact pageSecond_1 code _ w e rfl hl
  · exact pageSecond_2 code _ w e rfl hl
  · exact pageSecond_3 code _ w e rfl hl
  · exact pageSecond_4 code _ w e rfl hl
  · exact pageSecond_5 code _ w e rfl hl
  · exact pageSecond_6 code _ w e rfl hl
  · exact pageSecond_7 code _ w e rfl hl
  · exact pageSecond_8 code _ w e rfl hl
  · exact pageSecond_9 code _ w e rfl hl
  · exact pageSecond_10 code _ w e rfl hl
  · exact pageSecond_11 code _ w e rfl hl
  · exact pageSecond_12 code _ w e rfl hl
  · exact pageSecond_13 code _ w e rfl hl
  · exact pageSecond_14 code _ w e rfl hl
  · exact pageSecond_15 code _ w e rfl hl
theorem pageThird_any (code H L : Int) (w : World) (h : 0 ≤ code ∧ code < 256) (hH : code / 16 = H) (hL : Go.bits .and .u8 code 15 = L) :
    Calls Tryz.prog 188 #[.int .u8 code] w fun e w' => e = .returned (pageThird H L).v ∧ Below w.heap.size w w' := by
  subst hH hL
  have hl := low_lt code h
  rcases nib _ (high_lt code h) with e | e | e | e | e | e | e | e | e | e | e | e | e | e | e | e <;> rw [e]
  · exact pageThird_0 code _ w e rfl hl
  · exact pageThird_1 code _ w e rfl hl
  · exact pageThird_2 code _ w e rfl hl
  · exact pageThird_3 code _ w e rfl hl
  · exact pageThird_4 code _ w e rfl hl
  · exact pageThird_5 code _ w e rfl hl
  · exact pageThird_6 code _ w e rfl hl
  · exact pageThird_7 code _ w e rfl hl
  · exact pageThird_8 code _ w e rfl hl
  · exact pageThird_9 code _ w e rfl hl
  · exact pageThird_10 code _ w e rfl hl
  · exact pageThird_11 code _ w e rfl hl
  · exact pageThird_12 code _ w e rfl hl
  · exact pageThird_13 code _ w e rfl hl
  · exact pageThird_14 code _ w e rfl hl
  · exact pageThird_15 code _ w e rfl hl
def pageOfI (page code : Int) : Ent :=
  if page = 1 then pageFirst (code / 16) (Go.bits .and .u8 code 15)
  else if code = 63 then ⟨51, 0, page⟩
  else if page = 2 then pageSecond (code / 16) (Go.bits .and .u8 code 15) else pageThird (code / 16) (Go.bits .and .u8 code 15)
set_option maxRecDepth 100000 in
set_option maxHeartbeats 4000000 in
theorem pageOf_any (page code : Int) (w : World) (h : 0 ≤ code ∧ code < 256) (hp : page = 1 ∨ page = 2 ∨ page = 3) :
    Calls Tryz.prog 163 #[.int .i64 page, .int .u8 code] w fun e w' => e = .returned (pageOfI page code).v ∧ Below w.heap.size w w' := by
  obtain ⟨H, hH⟩ : ∃ H, code / 16 = H := ⟨_, rfl⟩
  obtain ⟨L, hL⟩ : ∃ L, Go.bits .and .u8 code 15 = L := ⟨_, rfl⟩
  have H1 := Lib.hid (fun W => pageFirst_any code H L W h hH hL)
  have H2 := Lib.hid (fun W => pageSecond_any code H L W h hH hL)
  have H3 := Lib.hid (fun W => pageThird_any code H L W h hH hL)
  rcases hp with rfl | rfl | rfl
  · rw [show pageOfI 1 code = pageFirst H L from by simp [pageOfI, hH, hL]]
    clear hH hL
    go_enter Tryz.func163, Tryz.ntmps163
    go_wp2_with (go_at_call 186; refine (H1.out _).mono ?_; rintro e w1 ⟨rfl, hb⟩; have hB := (Blk.new w 121 _).below hb (by simp); have q0 := hB.cell 0; have q1 := hB.cell 1; have q2 := hB.cell 2; have f0 := hB.frozen 0; have f1 := hB.frozen 1; have f2 := hB.frozen 2)
    exact bodyPost_ret (by exact results_cell_row rfl _ _ w.heap.size 121 _ (0, 0) _ rfl (((hB.set_ 0 _).set_ 1 _).set_ 2 _) Tryz.underlying121 rfl (by kernel_rfl)) rfl ⟨rfl, (((below_then (below_alloc (Below.refl _ _) _) hb).setCell (Nat.le_refl _) _).setCell (Nat.le_refl _) _).setCell (Nat.le_refl _) _⟩
  · by_cases h63 : code = 63
    · subst h63
      go_enter Tryz.func163, Tryz.ntmps163
      go_wp2
      exact bodyPost_ret (by exact results_cell_row rfl _ _ w.heap.size 121 _ (0, 0) _ rfl (heap_alloc_new w _) Tryz.underlying121 rfl (by kernel_rfl)) rfl ⟨rfl, below_alloc (Below.refl _ _) _⟩
    · have e63 : (code == 63) = false := beq_eq_false_iff_ne.mpr h63
      have e1 : pageOfI 2 code = pageSecond (code / 16) (Go.bits .and .u8 code 15) := by simp [pageOfI, h63]
      rw [hH, hL] at e1
      rw [e1]
      clear hH hL e1
      go_enter Tryz.func163, Tryz.ntmps163
      go_wp2_with (go_at_call 187; refine (H2.out _).mono ?_; rintro e w1 ⟨rfl, hb⟩; have hB := (Blk.new w 121 _).below hb (by simp); have q0 := hB.cell 0; have q1 := hB.cell 1; have q2 := hB.cell 2; have f0 := hB.frozen 0; have f1 := hB.frozen 1; have f2 := hB.frozen 2)
      exact bodyPost_ret (by exact results_cell_row rfl _ _ w.heap.size 121 _ (0, 0) _ rfl (((hB.set_ 0 _).set_ 1 _).set_ 2 _) Tryz.underlying121 rfl (by kernel_rfl)) rfl ⟨rfl, (((below_then (below_alloc (Below.refl _ _) _) hb).setCell (Nat.le_refl _) _).setCell (Nat.le_refl _) _).setCell (Nat.le_refl _) _⟩
  · by_cases h63 : code = 63
    · subst h63
      go_enter Tryz.func163, Tryz.ntmps163
      go_wp2
      exact bodyPost_ret (by exact results_cell_row rfl _ _ w.heap.size 121 _ (0, 0) _ rfl (heap_alloc_new w _) Tryz.underlying121 rfl (by kernel_rfl)) rfl ⟨rfl, below_alloc (Below.refl _ _) _⟩
    · have e63 : (code == 63) = false := beq_eq_false_iff_ne.mpr h63
      have e1 : pageOfI 3 code = pageThird (code / 16) (Go.bits .and .u8 code 15) := by simp [pageOfI, h63]
      rw [hH, hL] at e1
      rw [e1]
      clear hH hL e1
      go_enter Tryz.func163, Tryz.ntmps163
      go_wp2_with (go_at_call 188; refine (H3.out _).mono ?_; rintro e w1 ⟨rfl, hb⟩; have hB := (Blk.new w 121 _).below hb (by simp); have q0 := hB.cell 0; have q1 := hB.cell 1; have q2 := hB.cell 2; have f0 := hB.frozen 0; have f1 := hB.frozen 1; have f2 := hB.frozen 2)
      exact bodyPost_ret (by exact results_cell_row rfl _ _ w.heap.size 121 _ (0, 0) _ rfl (((hB.set_ 0 _).set_ 1 _).set_ 2 _) Tryz.underlying121 rfl (by kernel_rfl)) rfl ⟨rfl, (((below_then (below_alloc (Below.refl _ _) _) hb).setCell (Nat.le_refl _) _).setCell (Nat.le_refl _) _).setCell (Nat.le_refl _) _⟩
set_option maxRecDepth 100000 in
theorem pagePrefix_any (code : Int) (w : World) :
    Calls Tryz.prog 162 #[.int .u8 code] w fun e w' => e = .returned (.int .i64 (pagePrefix code)) ∧ w = w' := by
  by_cases h1 : code = 16
  · subst h1
    go_enter Tryz.func162, Tryz.ntmps162
    go_wp2
    go_ret
    exact ⟨rfl, rfl⟩
  by_cases h2 : code = 17
  · subst h2
    go_enter Tryz.func162, Tryz.ntmps162
    go_wp2
    go_ret
    exact ⟨rfl, rfl⟩
  have e1 : (code == 16) = false := beq_eq_false_iff_ne.mpr h1
  have e2 : (code == 17) = false := beq_eq_false_iff_ne.mpr h2
  rw [show pagePrefix code = 0 from by simp [pagePrefix, h1, h2]]
  go_enter Tryz.func162, Tryz.ntmps162
  go_wp2
  go_ret
  exact ⟨rfl, rfl⟩
set_option maxRecDepth 100000 in
theorem pageOf_other (page code : Int) (w : World) (h1 : page ≠ 1) (h2 : page ≠ 2) (h3 : page ≠ 3) :
    Calls Tryz.prog 163 #[.int .i64 page, .int .u8 code] w fun e w' => e = .returned (Ent.v ⟨0, 0, 0⟩) ∧ Below w.heap.size w w' := by
  have e1 : (page == 1) = false := beq_eq_false_iff_ne.mpr h1
  have e2 : (page == 2) = false := beq_eq_false_iff_ne.mpr h2
  have e3 : (page == 3) = false := beq_eq_false_iff_ne.mpr h3
  go_enter Tryz.func163, Tryz.ntmps163
  go_wp2
  exact bodyPost_ret (by exact results_cell_row rfl _ _ w.heap.size 121 _ (0, 0) _ rfl (heap_alloc_new w _) Tryz.underlying121 rfl (by kernel_rfl)) rfl ⟨rfl, below_alloc (Below.refl _ _) _⟩
theorem hiN_e (b : UInt8) : (b.toNat : Int) / 16 = hiN b := by
  unfold hiN; rw [UInt8.toNat_shiftRight]; simp [Nat.shiftRight_eq_div_pow]
theorem loN_e (b : UInt8) : Go.bits .and .u8 (b.toNat : Int) 15 = loN b := and8_15 b
theorem hiN_lt (b : UInt8) : 0 ≤ hiN b ∧ hiN b < 16 := by have := b.toNat_lt; rw [← hiN_e]; omega
theorem loN_lt (b : UInt8) : 0 ≤ loN b ∧ loN b < 16 := by rw [← loN_e]; exact low_lt _ (by have := b.toNat_lt; omega)
theorem eq63 (b : UInt8) : ((b.toNat : Int) = 63) ↔ b = 63 := by rw [← UInt8.toNat_inj]; simp; omega
theorem pageOf_t (page : Int) (code : UInt8) (w : World) :
    Calls Tryz.prog 163 #[.int .i64 page, .int .u8 (code.toNat : Int)] w fun e w' => e = .returned (pageOf page code).v ∧ Below w.heap.size w w' := by
  have hc : 0 ≤ (code.toNat : Int) ∧ (code.toNat : Int) < 256 := by have := code.toNat_lt; omega
  by_cases h1 : page = 1
  · subst h1
    have h := pageOf_any 1 (code.toNat : Int) w hc (.inl rfl)
    rwa [show pageOfI 1 (code.toNat : Int) = pageOf 1 code from by simp [pageOfI, pageOf, hiN_e, loN_e]] at h
  · by_cases h2 : page = 2
    · subst h2
      have h := pageOf_any 2 (code.toNat : Int) w hc (.inr (.inl rfl))
      rwa [show pageOfI 2 (code.toNat : Int) = pageOf 2 code from by simp only [pageOfI, pageOf, hiN_e, loN_e, eq63]; simp] at h
    · by_cases h3 : page = 3
      · subst h3
        have h := pageOf_any 3 (code.toNat : Int) w hc (.inr (.inr rfl))
        rwa [show pageOfI 3 (code.toNat : Int) = pageOf 3 code from by simp only [pageOfI, pageOf, hiN_e, loN_e, eq63]; simp] at h
      · have h := pageOf_other page (code.toNat : Int) w h1 h2 h3
        rwa [show (⟨0, 0, 0⟩ : Ent) = pageOf page code from by simp [pageOf, h1, h2, h3]] at h
theorem prefix_t (code : UInt8) (w : World) :
    Calls Tryz.prog 162 #[.int .u8 (code.toNat : Int)] w fun e w' => e = .returned (.int .i64 (prefix_ code)) ∧ w = w' := by
  have h := pagePrefix_any (code.toNat : Int) w
  have e1 : ((code.toNat : Int) = 16) ↔ code = 16 := by rw [← UInt8.toNat_inj]; simp; omega
  have e2 : ((code.toNat : Int) = 17) ↔ code = 17 := by rw [← UInt8.toNat_inj]; simp; omega
  rwa [show pagePrefix (code.toNat : Int) = prefix_ code from by simp only [pagePrefix, prefix_, e1, e2]] at h
end Go.Proofs.YtkdaphkpllgmbaaGreat
namespace Go.Proofs.YtkdaphkpllgmbaaGreat.Sp
set_option linter.unusedVariables false
set_option linter.unusedSimpArgs false
def isP (t : Step) : Bool := decide (t.kind = 8) || decide (t.kind = 9)
def need (q : List Step) : Nat := q.countP isP
def is1 (t : Step) : Bool := decide (t.kind = 1)
def c1 (q : List Step) : Nat := q.countP is1
def is2 (t : Step) : Bool := decide (t.kind = 2)
def c2 (q : List Step) : Nat := q.countP is2
theorem countP_push (p : Step → Bool) (q l : List Step) : (pushQ q l).countP p ≤ q.countP p + l.countP p := by
  unfold pushQ; split
  · rw [List.countP_append]; exact Nat.le_refl _
  · omega
theorem countP_some (p : Step → Bool) (k n : Int) : (some_ k n).countP p = if p ⟨k, false⟩ then n.toNat else 0 := List.countP_replicate ..
def entOk (e : Ent) : Bool := (decide (e.op ≠ 51) || decide (e.reg = 1) || decide (e.reg = 2) || decide (e.reg = 3)) && (decide (e.op ≠ 49) || decide (e.mode = 0)) && (decide (e.op ≠ 41) || decide (e.mode = 1))
  && (!(decide (e.mode = 0) || decide (e.mode = 1) || decide (e.mode = 2) || decide (e.mode = 6) || decide (e.mode = 7) || decide (e.mode = 8) || decide (e.mode = 9)) || (decide (e.op ≠ 29) && decide (e.op ≠ 32) && decide (e.op ≠ 33)))
theorem all8 {P : UInt8 → Prop} (h : ∀ n : Fin 256, P (UInt8.ofNat n.val)) (b : UInt8) : P b := by
  have := h ⟨b.toNat, b.toNat_lt⟩
  rwa [UInt8.ofNat_toNat] at this
theorem page_ok (page : Int) (b : UInt8) : entOk (pageOf page b) = true := by
  have h1 : ∀ b : UInt8, entOk (pageOf 1 b) = true := fun b => all8 (P := fun b => entOk (pageOf 1 b) = true) (by decide +kernel) b
  have h2 : ∀ b : UInt8, entOk (pageOf 2 b) = true := fun b => all8 (P := fun b => entOk (pageOf 2 b) = true) (by decide +kernel) b
  have h3 : ∀ b : UInt8, entOk (pageOf 3 b) = true := fun b => all8 (P := fun b => entOk (pageOf 3 b) = true) (by decide +kernel) b
  by_cases p1 : page = 1
  · subst p1; exact h1 b
  by_cases p2 : page = 2
  · subst p2; exact h2 b
  by_cases p3 : page = 3
  · subst p3; exact h3 b
  rw [show pageOf page b = ⟨0, 0, 0⟩ from by unfold pageOf; rw [if_neg p1, if_neg p2, if_neg p3]]
  rfl
theorem order_count (b : UInt8) (r : Int) : ((order b r).length : Int) = count b := by
  have h : ∀ b : UInt8, ((order b 3).length : Int) = count b := fun b => all8 (P := fun b => ((order b 3).length : Int) = count b) (by decide +kernel) b
  rw [← h b]
  have : (order b r).length = (order b 3).length := by
    by_cases h3 : r = 3
    · rw [h3]
    · unfold order
      simp only [List.length_append, if_neg h3, if_pos rfl]
      cases off b 6 <;> rfl
  rw [this]
def needE (e : Ent) (b : UInt8) : Nat :=
  if e.mode = 0 then (if e.op = 48 then 2 else if e.op = 49 then 1 else if e.op = 51 then 12 else 0)
  else if e.mode = 1 then (if e.op = 41 then 12 else 0)
  else if e.mode = 6 ∨ e.mode = 7 then (if e.op = 37 ∨ e.op = 38 then 2 else 0)
  else if e.mode = 9 then (count b).toNat
  else if e.mode = 2 ∨ e.mode = 8 then 0 else if e.op = 33 then 2 else 0
theorem group10 (op : Int) (h : group op = 10) : op = 33 := by
  unfold group at h
  repeat' split at h
  all_goals omega
theorem need_memory (g : Int) : need (memoryRow g) = if g = 10 then 2 else 0 := by
  unfold memoryRow
  repeat' split
  all_goals first | rfl | omega
theorem need_inside (op : Int) : need (insideRow op) = if op = 48 then 2 else if op = 49 then 1 else if op = 51 then 12 else 0 := by
  unfold insideRow
  repeat' split
  all_goals first | rfl | omega
theorem need_branch (e : Ent) (cc : UInt8) : need (branchRow e cc) = if e.op = 37 ∨ e.op = 38 then 2 else 0 := by
  unfold branchRow
  repeat' split
  all_goals first | rfl | omega
theorem need_many (op : Int) (b : UInt8) : need (manyRow op b) = (count b).toNat := by
  unfold manyRow
  split <;> simp [need, List.countP_append, countP_some, isP]
theorem need_tail (e : Ent) (b cc : UInt8) : need (tail e b cc) ≤ needE e b := by
  unfold tail needE
  by_cases m0 : e.mode = 0
  · rw [if_pos m0, if_pos m0, need_inside]; exact Nat.le_refl _
  rw [if_neg m0, if_neg m0]
  by_cases m1 : e.mode = 1
  · rw [if_pos m1, if_pos m1]
    repeat' split
    all_goals first | exact Nat.le_refl _ | (simp [need, List.countP_append, countP_some, isP]; done) | omega
  rw [if_neg m1, if_neg m1]
  by_cases m2 : e.mode = 2
  · rw [if_pos m2]
    split <;> simp [need, countP_some, isP]
  rw [if_neg m2]
  by_cases m6 : e.mode = 6 ∨ e.mode = 7
  · rw [if_pos m6, if_pos m6, need_branch]; exact Nat.le_refl _
  rw [if_neg m6, if_neg m6]
  by_cases m8 : e.mode = 8
  · rw [if_pos m8]
    split <;> simp [need, countP_some, isP]
  rw [if_neg m8]
  by_cases m9 : e.mode = 9
  · rw [if_pos m9, if_pos m9, need_many]; exact Nat.le_refl _
  rw [if_neg m9, if_neg m9, if_neg (by omega), need_memory]
  split
  · rename_i h
    rw [if_pos (group10 _ h)]; exact Nat.le_refl _
  · omega
theorem need_push (q l : List Step) : need (pushQ q l) ≤ need q + need l := countP_push isP q l
theorem c1_push (q l : List Step) : c1 (pushQ q l) ≤ c1 q + c1 l := countP_push is1 q l
theorem c2_push (q l : List Step) : c2 (pushQ q l) ≤ c2 q + c2 l := countP_push is2 q l
theorem c_memory (g : Int) : c1 (memoryRow g) = 0 ∧ c2 (memoryRow g) = 0 := by
  unfold memoryRow
  repeat' split
  all_goals exact ⟨rfl, rfl⟩
theorem c_inside (op : Int) : c1 (insideRow op) = 0 ∧ c2 (insideRow op) = 0 := by
  unfold insideRow
  repeat' split
  all_goals exact ⟨rfl, rfl⟩
theorem c_branch (e : Ent) (cc : UInt8) : c1 (branchRow e cc) = 0 ∧ c2 (branchRow e cc) = 0 := by
  unfold branchRow
  repeat' split
  all_goals exact ⟨rfl, rfl⟩
theorem c_many (op : Int) (b : UInt8) : c1 (manyRow op b) = 0 ∧ c2 (manyRow op b) = 0 := by
  unfold manyRow
  split <;> simp [c1, c2, List.countP_append, countP_some, is1, is2]
theorem c_tail (e : Ent) (b cc : UInt8) : c1 (tail e b cc) = 0 ∧ c2 (tail e b cc) = 0 := by
  unfold tail
  repeat' split
  all_goals first | exact ⟨rfl, rfl⟩ | exact c_memory _ | exact c_inside _ | exact c_branch _ _ | exact c_many _ _
theorem ahead_c (m : Int) : need (ahead m) = 0 ∧ c1 (ahead m) = 0 ∧ c2 (ahead m) ≤ 2 := by
  unfold ahead
  repeat' split
  all_goals exact ⟨rfl, rfl, by decide⟩
theorem behind_c (p : Post) : need (behind p) = 0 ∧ c1 (behind p) = 0 ∧ c2 (behind p) ≤ 2 := by
  unfold behind
  have hb : p.bytes.toNat ≤ 2 := by unfold Post.bytes; repeat' split
                                    all_goals decide
  cases p.ind <;> simp [need, c1, c2, List.countP_append, countP_some, isP, is1, is2, first_] <;> omega
theorem rest_c (b : UInt8) : c1 (rest b) = 0 ∧ c2 (rest b) = 0 ∧ need (rest b) = if b &&& 128 != 0 then 11 else 2 := by
  unfold rest
  split <;> exact ⟨rfl, rfl, rfl⟩
/-- The core between two cycles. -/
structure Plain (s : Core) : Prop where
  need_ : need s.q ≤ s.list.length
  op : c1 s.q = 0
  rti : s.e.op = 49 → ∀ x ∈ s.list, x.reg ≠ 10
  args0 : 0 ≤ s.args
  args : s.args + c2 s.q ≤ 60
  post : posted s.e.mode = true → c2 s.q = 0 ∨ 1 ≤ s.args
  cwai : s.e.op = 41 → c2 s.q = 0
inductive Phase (s : Core) : Prop
  | idle (h : s.q = []) : Phase s
  | fetch (h : s.q = [⟨1, false⟩]) (ha : s.args = 0) : Phase s
  | post (q : List Step) (h : s.q = ⟨2, false⟩ :: q) (hp : posted s.e.mode = true) (ha : s.args = 0) (hn : need q = 0) (h1 : c1 q = 0) (h2 : c2 q = 0) (hl : s.e.mode = 4 → s.e.op = 33 → s.list.length = 2) (h49 : s.e.op ≠ 49) (h41 : s.e.op ≠ 41) : Phase s
  | cwai (q : List Step) (h : s.q = ⟨2, false⟩ :: q) (hm : s.e.mode = 1) (ho : s.e.op = 41) (ha : s.args = 0) (hn : need q ≤ 12) (h1 : c1 q = 0) (h2 : c2 q = 0) : Phase s
  | rti (q : List Step) (h : s.q = q ++ [⟨9, false⟩]) (ho : s.e.op = 49) (hl : s.list = [⟨10, false⟩]) (hn : need q = 0) (h1 : c1 q = 0) (h2 : c2 q = 0) (ha : s.args = 0) (hm : s.e.mode = 0) : Phase s
  | plain (h : Plain s) : Phase s
structure Core.Inv (s : Core) : Prop where
  ent : entOk s.e = true
  ph : Phase s
theorem inv_new (r : Regs) : (Core.new r).Inv := ⟨rfl, .idle rfl⟩
theorem Core.Inv.list {s : Core} (h : s.Inv) {t : Step} {q : List Step} (hq : s.q = t :: q) (ht : t.kind = 8 ∨ t.kind = 9) : s.list ≠ [] := by
  have hp : isP t = true := by unfold isP; rcases ht with h | h <;> simp [h]
  rcases h.ph with h | ⟨h, _⟩ | ⟨q', h, _⟩ | ⟨q', h, _⟩ | ⟨q', h, _, hl, _⟩ | h
  · rw [h] at hq; cases hq
  · rw [h] at hq; injection hq with h1 _; rw [← h1] at ht; simp at ht
  · rw [h] at hq; injection hq with h1 _; rw [← h1] at ht; simp at ht
  · rw [h] at hq; injection hq with h1 _; rw [← h1] at ht; simp at ht
  · rw [hl]; simp
  · have := h.need_
    rw [hq, need, List.countP_cons_of_pos hp] at this
    intro hn
    rw [hn] at this
    simp at this
theorem into_list (t : Core) (e : Enter) (l : List Step) : ((t.into e true).push l).list = partsOf e.whole := rfl
theorem inv_begin (s : Core) (h : s.Inv) (k : Int) : (s.begin_ k).1.Inv := by
  unfold Core.begin_
  split
  · exact h
  split
  · exact h
  rename_i hk
  split
  · exact ⟨rfl, .fetch rfl rfl⟩
  · rename_i h0
    refine ⟨?_, ?_⟩
    · unfold Core.into Core.push; split <;> rfl
    · refine .plain ?_
      have hr : c1 (rowOf k) = 0 ∧ c2 (rowOf k) = 0 := by
        unfold rowOf
        repeat' split
        all_goals exact ⟨rfl, rfl⟩
      have hlen : (partsOf true).length = 12 := by decide
      have hlen2 : (partsOf false).length = 3 := by decide
      have hq : ∀ b, ((({ Core.new s.r with kind := k, page := 1, stack := 4 } : Core).into (frameOf k s.r.cc).1 b).push (rowOf k)).q = pushQ [] (rowOf k) := by intro b; unfold Core.into Core.push; split <;> rfl
      have he : ∀ b, ((({ Core.new s.r with kind := k, page := 1, stack := 4 } : Core).into (frameOf k s.r.cc).1 b).push (rowOf k)).e = ⟨0, 0, 0⟩ := by intro b; unfold Core.into Core.push; split <;> rfl
      have ha : ∀ b, ((({ Core.new s.r with kind := k, page := 1, stack := 4 } : Core).into (frameOf k s.r.cc).1 b).push (rowOf k)).args = 0 := by intro b; unfold Core.into Core.push; split <;> rfl
      have h1 := c1_push [] (rowOf k)
      have h2 := c2_push [] (rowOf k)
      rw [hr.1, show c1 [] = 0 from rfl] at h1
      rw [hr.2, show c2 [] = 0 from rfl] at h2
      have h3 := need_push [] (rowOf k)
      rw [show need [] = 0 from rfl] at h3
      refine ⟨?_, ?_, ?_, ?_, ?_, ?_, ?_⟩
      · rw [hq]
        refine Nat.le_trans h3 ?_
        by_cases k1 : k = 1
        · subst k1; rw [show decide ((1 : Int) ≤ 3) = true from by decide]; exact Nat.le_of_eq (by rw [into_list, show (frameOf 1 s.r.cc).1.whole = true from rfl, hlen]; rfl)
        by_cases k2 : k = 2
        · subst k2; rw [show decide ((2 : Int) ≤ 3) = true from by decide]; exact Nat.le_of_eq (by rw [into_list, show (frameOf 2 s.r.cc).1.whole = false from rfl, hlen2]; rfl)
        by_cases k3 : k = 3
        · subst k3; rw [show decide ((3 : Int) ≤ 3) = true from by decide]; exact Nat.le_of_eq (by rw [into_list, show (frameOf 3 s.r.cc).1.whole = true from rfl, hlen]; rfl)
        rw [show need (rowOf k) = 0 from by
          unfold rowOf
          repeat' split
          all_goals first | rfl | omega]
        omega
      · rw [hq]; omega
      · rw [he]; simp
      · rw [ha]; omega
      · rw [hq, ha]; omega
      · rw [he]; intro h; cases h
      · rw [he]; simp
structure Like (s' s : Core) : Prop where
  q : s'.q = s.q
  list : s'.list = s.list
  e : s'.e = s.e
  args : s'.args = s.args
theorem Like.rfl_ {s : Core} : Like s s := ⟨rfl, rfl, rfl, rfl⟩
theorem Like.trans {a b c : Core} (h : Like a b) (k : Like b c) : Like a c := ⟨h.q.trans k.q, h.list.trans k.list, h.e.trans k.e, h.args.trans k.args⟩
theorem Plain.like {s s' : Core} (h : Plain s) (k : Like s' s) : Plain s' := by
  obtain ⟨k1, k2, k3, k4⟩ := k
  refine ⟨?_, ?_, ?_, ?_, ?_, ?_, ?_⟩
  · rw [k1, k2]; exact h.need_
  · rw [k1]; exact h.op
  · rw [k2, k3]; exact h.rti
  · rw [k4]; exact h.args0
  · rw [k1, k4]; exact h.args
  · rw [k1, k3, k4]; exact h.post
  · rw [k1, k3]; exact h.cwai
theorem eight_like (s : Core) (b : UInt8) : Like (s.eight b) s := ⟨rfl, rfl, rfl, rfl⟩
theorem sixteen_like (s : Core) (w : UInt16) : Like (s.sixteen w) s := by
  unfold Core.sixteen
  dsimp only
  split <;> exact ⟨rfl, rfl, rfl, rfl⟩
theorem load_like (s : Core) (t : Step) (b : UInt8) : Like (s.load t b) s := by
  unfold Core.load
  dsimp only
  repeat' split
  all_goals first | exact ⟨rfl, rfl, rfl, rfl⟩ | exact (eight_like _ _).trans ⟨rfl, rfl, rfl, rfl⟩ | exact (sixteen_like _ _).trans ⟨rfl, rfl, rfl, rfl⟩
theorem pointer_like (s : Core) (t : Step) (b : UInt8) : Like (s.pointer t b) s := by
  unfold Core.pointer
  repeat' split
  all_goals exact ⟨rfl, rfl, rfl, rfl⟩
theorem ready1_like (s : Core) : Like s.ready1 s := by
  unfold Core.ready1
  dsimp only
  repeat' split
  all_goals exact ⟨rfl, rfl, rfl, rfl⟩
theorem ready2_like (s : Core) (h : s.e.op ≠ 41) : Like s.ready2 s := by
  unfold Core.ready2
  rw [if_neg h]
  repeat' split
  all_goals exact ⟨rfl, rfl, rfl, rfl⟩
theorem ready_like (s : Core) (h : s.e.op ≠ 41) : Like s.ready s := (ready2_like s.ready1 (by rw [(ready1_like s).e]; exact h)).trans (ready1_like s)
theorem do_like (s : Core) (t : Step) (b : UInt8) (h1 : t.kind ≠ 1) (h2 : t.kind ≠ 2) (h8 : t.kind ≠ 8) (h9 : t.kind ≠ 9) : Like (s.do_ t b) s := by
  unfold Core.do_
  rw [if_neg h1, if_neg h2, if_neg h8, if_neg h9]
  repeat' split
  all_goals first | exact load_like _ _ _ | exact pointer_like _ _ _ | exact ⟨rfl, rfl, rfl, rfl⟩
theorem is_of_c (f : Step → Bool) (t : Step) (q : List Step) (h : (t :: q).countP f = 0) : f t = false ∧ q.countP f = 0 := by
  cases hf : f t
  · rw [List.countP_cons_of_neg (by simp [hf])] at h; exact ⟨rfl, h⟩
  · rw [List.countP_cons_of_pos hf] at h; omega
theorem Plain.pop {s : Core} (h : Plain s) {t : Step} {q : List Step} (hq : s.q = t :: q) : Plain { s with q := q } := by
  have hle : ∀ f : Step → Bool, q.countP f ≤ s.q.countP f := by
    intro f; rw [hq]
    cases hf : f t
    · rw [List.countP_cons_of_neg (by simp [hf])]; exact Nat.le_refl _
    · rw [List.countP_cons_of_pos hf]; omega
  have n := hle isP
  have o := hle is1
  have a := hle is2
  have h1 := h.need_
  have h2 := h.op
  have h3 := h.args
  unfold need at h1
  unfold c1 at h2
  unfold c2 at h3
  refine ⟨?_, ?_, h.rti, h.args0, ?_, ?_, ?_⟩
  · show q.countP isP ≤ s.list.length; omega
  · show q.countP is1 = 0; omega
  · show s.args + (q.countP is2 : Nat) ≤ 60; omega
  · intro hp
    rcases h.post hp with h | h
    · left; show q.countP is2 = 0; unfold c2 at h; omega
    · exact .inr h
  · intro ho
    have := h.cwai ho
    show q.countP is2 = 0
    unfold c2 at this; omega
theorem wrap_small (a : Int) (h0 : 0 ≤ a) (h1 : a ≤ 60) : IntKind.i64.wrap (a + 1) = a + 1 := by
  unfold IntKind.wrap
  simp [IntKind.signed, IntKind.bits]
  omega
theorem Plain.arg {s : Core} (h : Plain s) {t : Step} {q : List Step} (hq : s.q = t :: q) (ht : t.kind = 2) (b : UInt8) : Plain (({ s with q := q } : Core).arg b) := by
  have hp := h.pop hq
  have hc : c2 s.q = c2 q + 1 := by rw [hq]; exact List.countP_cons_of_pos (by simp [is2, ht])
  have h41 : s.e.op ≠ 41 := by intro e; have := h.cwai e; omega
  have h3 := h.args
  have h0 := h.args0
  have hw := wrap_small s.args h0 (by omega)
  have hne : ¬ (IntKind.i64.wrap (s.args + 1) = 1 ∧ posted s.e.mode = true) := by
    rintro ⟨h1, h2⟩
    rw [hw] at h1
    rcases h.post h2 with h | h <;> omega
  unfold Core.arg
  dsimp only
  rw [if_neg hne]
  have hP : Plain ({ s with q := q, r := { s.r with pc := plusW s.r.pc 1 }, args := IntKind.i64.wrap (s.args + 1), value := joinW s.value b } : Core) := by
    refine ⟨hp.need_, hp.op, hp.rti, ?_, ?_, ?_, hp.cwai⟩
    · show 0 ≤ IntKind.i64.wrap (s.args + 1); omega
    · show IntKind.i64.wrap (s.args + 1) + (c2 q : Nat) ≤ 60; omega
    · intro _; right; show 1 ≤ IntKind.i64.wrap (s.args + 1); omega
  split
  · exact hP
  · exact hP.like (ready_like _ h41)
theorem Plain.shift {s : Core} (h : Plain s) {t : Step} {q : List Step} (hq : s.q = t :: q) (ht : t.kind = 8 ∨ t.kind = 9) (r : Regs) : Plain { s with q := q, r := r, list := s.list.tail } := by
  have hp := h.pop hq
  have hc : need s.q = need q + 1 := by rw [hq]; exact List.countP_cons_of_pos (by unfold isP; rcases ht with h | h <;> simp [h])
  have hn := h.need_
  refine ⟨?_, hp.op, ?_, hp.args0, hp.args, hp.post, hp.cwai⟩
  · show need q ≤ s.list.tail.length
    rw [List.length_tail]; omega
  · intro ho x hx
    exact h.rti ho x (List.mem_of_mem_tail hx)
theorem hb128 (b : UInt8) : (b &&& 128 != 0) = hb b 128 := by
  have h : ∀ b : UInt8, (b &&& 128 != 0) = hb b 128 := fun b => all8 (P := fun b => (b &&& 128 != 0) = hb b 128) (by decide +kernel) b
  exact h b
theorem inv_arg_post {s : Core} (hent : entOk s.e = true) {q : List Step} (hp : posted s.e.mode = true) (ha : s.args = 0) (hn : need q = 0) (h1 : c1 q = 0) (h2 : c2 q = 0) (hl : s.e.mode = 4 → s.e.op = 33 → s.list.length = 2) (h49 : s.e.op ≠ 49) (h41 : s.e.op ≠ 41) (b : UInt8) : (({ s with q := q } : Core).arg b).Inv := by
  have hP : Plain (({ s with q := q, r := { s.r with pc := plusW s.r.pc 1 }, args := 1 } : Core).postbyte b) := by
    unfold Core.postbyte
    dsimp only
    by_cases m4 : s.e.mode = 4
    · rw [if_pos m4]
      have a1 := need_push (pushQ q (behind (postOf b))) (tail s.e b s.r.cc)
      have a2 := need_push q (behind (postOf b))
      have a3 := need_tail s.e b s.r.cc
      have b1 := c1_push (pushQ q (behind (postOf b))) (tail s.e b s.r.cc)
      have b2 := c1_push q (behind (postOf b))
      have d1 := c2_push (pushQ q (behind (postOf b))) (tail s.e b s.r.cc)
      have d2 := c2_push q (behind (postOf b))
      have e1 := behind_c (postOf b)
      have e2 := c_tail s.e b s.r.cc
      have hE : needE s.e b ≤ s.list.length := by
        unfold needE
        rw [if_neg (by omega), if_neg (by omega), if_neg (by omega), if_neg (by omega), if_neg (by omega)]
        split
        · rename_i h; rw [hl m4 h]; exact Nat.le_refl _
        · omega
      refine ⟨?_, ?_, fun h => absurd h h49, by show (0 : Int) ≤ 1; decide, ?_, fun _ => .inr (by show (1 : Int) ≤ 1; decide), fun h => absurd h h41⟩
      · show need (pushQ (pushQ q (behind (postOf b))) (tail s.e b s.r.cc)) ≤ s.list.length; omega
      · show c1 (pushQ (pushQ q (behind (postOf b))) (tail s.e b s.r.cc)) = 0; omega
      · show (1 : Int) + (c2 (pushQ (pushQ q (behind (postOf b))) (tail s.e b s.r.cc)) : Nat) ≤ 60; omega
    rw [if_neg m4]
    by_cases m9 : s.e.mode = 9
    · rw [if_pos m9]
      have a1 := need_push q (tail s.e b s.r.cc)
      have a3 := need_tail s.e b s.r.cc
      have b1 := c1_push q (tail s.e b s.r.cc)
      have d1 := c2_push q (tail s.e b s.r.cc)
      have e2 := c_tail s.e b s.r.cc
      have hE : needE s.e b = (count b).toNat := by
        unfold needE
        rw [if_neg (by omega), if_neg (by omega), if_neg (by omega), if_pos m9]
      have hO := order_count b s.e.reg
      refine ⟨?_, ?_, fun h => absurd h h49, by show (0 : Int) ≤ 1; decide, ?_, fun _ => .inr (by show (1 : Int) ≤ 1; decide), fun h => absurd h h41⟩
      · show need (pushQ q (tail s.e b s.r.cc)) ≤ (if s.e.op = 30 then (order b s.e.reg).reverse else order b s.e.reg).length
        have : (if s.e.op = 30 then (order b s.e.reg).reverse else order b s.e.reg).length = (order b s.e.reg).length := by split <;> simp
        omega
      · show c1 (pushQ q (tail s.e b s.r.cc)) = 0; omega
      · show (1 : Int) + (c2 (pushQ q (tail s.e b s.r.cc)) : Nat) ≤ 60; omega
    rw [if_neg m9]
    refine ⟨?_, h1, fun h => absurd h h49, by show (0 : Int) ≤ 1; decide, ?_, fun _ => .inr (by show (1 : Int) ≤ 1; decide), fun h => absurd h h41⟩
    · show need q ≤ s.list.length; omega
    · show (1 : Int) + (c2 q : Nat) ≤ 60; omega
  have hE : (({ s with q := q, r := { s.r with pc := plusW s.r.pc 1 }, args := 1 } : Core).postbyte b).e = s.e := by
    unfold Core.postbyte
    dsimp only
    repeat' split
    all_goals rfl
  unfold Core.arg
  dsimp only
  have hw : IntKind.i64.wrap (s.args + 1) = 1 := by rw [ha]; decide
  rw [hw, if_pos (show (1 : Int) = 1 ∧ posted s.e.mode = true from ⟨rfl, hp⟩)]
  split
  · exact ⟨by rw [hE]; exact hent, .plain hP⟩
  · have hk := ready_like _ (show (({ s with q := q, r := { s.r with pc := plusW s.r.pc 1 }, args := 1 } : Core).postbyte b).e.op ≠ 41 by rw [hE]; exact h41)
    exact ⟨by rw [hk.e, hE]; exact hent, .plain (hP.like hk)⟩
theorem inv_arg_cwai {s : Core} (hent : entOk s.e = true) {q : List Step} (hm : s.e.mode = 1) (ho : s.e.op = 41) (ha : s.args = 0) (hn : need q ≤ 12) (h1 : c1 q = 0) (h2 : c2 q = 0) (b : UInt8) : (({ s with q := q } : Core).arg b).Inv := by
  have hq : nextArg q = false := by
    unfold nextArg
    split
    · rfl
    · rename_i t q'
      have := (is_of_c is2 t q' h2).1
      exact this
  have hw : IntKind.i64.wrap (s.args + 1) = 1 := by rw [ha]; decide
  unfold Core.arg
  dsimp only
  rw [hw, if_neg (show ¬ ((1 : Int) = 1 ∧ posted s.e.mode = true) from by rw [hm]; simp [posted])]
  rw [hq]
  simp only [Bool.false_eq_true, if_false]
  unfold Core.ready Core.ready1
  dsimp only
  rw [if_neg (by omega), if_neg (by omega), if_neg (by omega), if_neg (by omega), if_neg (by omega)]
  unfold Core.ready2
  dsimp only
  rw [if_neg (by omega), if_neg (by omega), if_pos ho]
  refine ⟨hent, .plain ⟨?_, h1, ?_, by show (0 : Int) ≤ 1; decide, ?_, ?_, fun _ => h2⟩⟩
  · show need q ≤ (partsOf true).length
    rw [show (partsOf true).length = 12 from by decide]; exact hn
  · intro h; exfalso; have : s.e.op = 49 := h; omega
  · show (1 : Int) + (c2 q : Nat) ≤ 60; omega
  · intro _; right; show (1 : Int) ≤ 1; decide
theorem inv_pull_rti {s : Core} (hent : entOk s.e = true) (ho : s.e.op = 49) (hl : s.list = [⟨10, false⟩]) (ha : s.args = 0) (hm : s.e.mode = 0) (b : UInt8) : (({ s with q := [] } : Core).pull b).Inv := by
  have hpull : ∃ r, ({ s with q := [] } : Core).pull b = ({ s with q := pushQ [] (rest b), r := r, list := if hb b 128 then order 0xfe 4 else order 0x80 4 } : Core) := by
    unfold Core.pull Core.push
    simp only [hl, ho, List.headD, List.tail, ne_eq, not_true, or_self, if_false]
    exact ⟨_, rfl⟩
  obtain ⟨r, hpull⟩ := hpull
  rw [hpull]
  have a1 := need_push [] (rest b)
  have b1 := c1_push [] (rest b)
  have d1 := c2_push [] (rest b)
  have e1 := rest_c b
  rw [hb128] at e1
  refine ⟨hent, .plain ⟨?_, ?_, ?_, ?_, ?_, ?_, ?_⟩⟩
  · show need (pushQ [] (rest b)) ≤ (if hb b 128 then order 0xfe 4 else order 0x80 4).length
    have n0 : need [] = 0 := rfl
    cases h : hb b 128
    · rw [h] at e1
      have : (order 0x80 4).length = 2 := by decide
      simp only [Bool.false_eq_true, if_false] at e1 ⊢
      omega
    · rw [h] at e1
      have : (order 0xfe 4).length = 11 := by decide
      simp only [if_true] at e1 ⊢
      omega
  · show c1 (pushQ [] (rest b)) = 0
    have n0 : c1 [] = 0 := rfl
    omega
  · intro _
    show ∀ x ∈ (if hb b 128 then order 0xfe 4 else order 0x80 4), x.reg ≠ 10
    cases hb b 128 <;> decide
  · show 0 ≤ s.args; omega
  · show s.args + (c2 (pushQ [] (rest b)) : Nat) ≤ 60
    have n0 : c2 [] = 0 := rfl
    omega
  · intro h
    have : posted s.e.mode = true := h
    rw [hm] at this
    cases this
  · intro h; exfalso; have : s.e.op = 41 := h; omega
theorem inv_opcode {s : Core} (hent : entOk s.e = true) (ha : s.args = 0) (b : UInt8) : (({ s with q := [] } : Core).opcode b).Inv := by
  unfold Core.opcode
  dsimp only
  split
  · exact ⟨hent, .fetch rfl ha⟩
  have hE := page_ok s.page b
  generalize pageOf s.page b = E at *
  have t1 := need_push (pushQ [] (ahead E.mode)) (tail E 0 s.r.cc)
  have t2 := need_push [] (ahead E.mode)
  have t3 := need_tail E 0 s.r.cc
  have b1 := c1_push (pushQ [] (ahead E.mode)) (tail E 0 s.r.cc)
  have b2 := c1_push [] (ahead E.mode)
  have d1 := c2_push (pushQ [] (ahead E.mode)) (tail E 0 s.r.cc)
  have d2 := c2_push [] (ahead E.mode)
  have e1 := ahead_c E.mode
  have e2 := c_tail E 0 s.r.cc
  have n0 : need [] = 0 := rfl
  have n1 : c1 [] = 0 := rfl
  have n2 : c2 [] = 0 := rfl
  have k12 : (partsOf true).length = 12 := by decide
  have k2 : (order 0x80 4).length = 2 := by decide
  have hO := hE
  simp only [entOk, Bool.and_eq_true, Bool.or_eq_true, Bool.not_eq_true', decide_eq_true_eq] at hO
  obtain ⟨⟨⟨o51, o49⟩, o41⟩, _⟩ := hO
  -- the shape behind the tail
  have hsh : ∀ q, (q = (if E.mode ≠ 4 ∧ E.mode ≠ 9 then pushQ (pushQ [] (ahead E.mode)) (tail E 0 s.r.cc) else pushQ [] (ahead E.mode))) →
      (if E.mode ≠ 4 ∧ E.mode ≠ 9 then (({ s with q := [], r := { s.r with pc := plusW s.r.pc 1 }, e := E } : Core).push (ahead E.mode)).push (tail E 0 s.r.cc) else ({ s with q := [], r := { s.r with pc := plusW s.r.pc 1 }, e := E } : Core).push (ahead E.mode)) = ({ s with q := q, r := { s.r with pc := plusW s.r.pc 1 }, e := E } : Core) := by
    intro q hq
    by_cases hm : E.mode ≠ 4 ∧ E.mode ≠ 9
    · rw [if_pos hm] at hq ⊢; rw [hq]; rfl
    · rw [if_neg hm] at hq ⊢; rw [hq]; rfl
  obtain ⟨q, hq⟩ : ∃ q, q = (if E.mode ≠ 4 ∧ E.mode ≠ 9 then pushQ (pushQ [] (ahead E.mode)) (tail E 0 s.r.cc) else pushQ [] (ahead E.mode)) := ⟨_, rfl⟩
  have hs := hsh q hq
  clear hsh
  have key : ∀ u : Core, u.q = q → u.e = E → u.args = 0 → ((E.op = 51 → u.list.length = 12) ∧ (E.op = 48 ∨ E.op = 33 ∨ E.op = 37 ∨ E.op = 38 → u.list.length = 2) ∧ (E.op = 49 → u.list = [⟨10, false⟩])) → u.Inv := by
    intro u uq ue ua ⟨l51, l2, l49⟩
    refine ⟨by rw [ue]; exact hE, ?_⟩
    by_cases h49 : E.op = 49
    · have hm : E.mode = 0 := by simpa [h49] using o49
      refine .rti [⟨3, false⟩] ?_ (by rw [ue]; exact h49) (l49 h49) rfl rfl rfl ua (by rw [ue]; exact hm)
      rw [uq, hq, if_pos (by omega), hm, show tail E 0 s.r.cc = insideRow 49 from by unfold tail; rw [if_pos hm, h49]]
      rfl
    by_cases h41 : E.op = 41
    · have hm : E.mode = 1 := by simpa [h41] using o41
      refine .cwai (some_ 3 1 ++ (some_ 4 1 ++ some_ 8 12)) ?_ (by rw [ue]; exact hm) (by rw [ue]; exact h41) ua (by decide) rfl rfl
      rw [uq, hq, if_pos (by omega), hm, show tail E 0 s.r.cc = some_ 3 1 ++ (some_ 4 1 ++ some_ 8 12) from by unfold tail; rw [if_neg (by omega), if_pos hm, if_neg (by omega), if_pos h41]]
      rfl
    by_cases hp : posted E.mode = true
    · have hm : E.mode = 4 ∨ E.mode = 8 ∨ E.mode = 9 := by simpa [posted, or_assoc] using hp
      rcases hm with hm | hm | hm
      · refine .post [] ?_ (by rw [ue]; exact hp) ua rfl rfl rfl (fun _ ho => l2 (by rw [ue] at ho; omega)) (by rw [ue]; exact h49) (by rw [ue]; exact h41)
        rw [uq, hq, if_neg (by omega), hm]; rfl
      · refine .post (tail E 0 s.r.cc) ?_ (by rw [ue]; exact hp) ua ?_ e2.1 e2.2 (fun h => by rw [ue] at h; omega) (by rw [ue]; exact h49) (by rw [ue]; exact h41)
        · rw [uq, hq, if_pos (by omega), hm]
          unfold tail
          rw [if_neg (by omega), if_neg (by omega), if_neg (by omega), if_neg (by omega), if_pos hm]
          split <;> rfl
        · have : needE E 0 = 0 := by unfold needE; rw [if_neg (by omega), if_neg (by omega), if_neg (by omega), if_neg (by omega), if_pos (by omega)]
          omega
      · refine .post [] ?_ (by rw [ue]; exact hp) ua rfl rfl rfl (fun h => by rw [ue] at h; omega) (by rw [ue]; exact h49) (by rw [ue]; exact h41)
        rw [uq, hq, if_neg (by omega), hm]; rfl
    · have hm : E.mode ≠ 4 ∧ E.mode ≠ 8 ∧ E.mode ≠ 9 := by simpa [posted, and_assoc] using hp
      rw [if_pos (by omega)] at hq
      rw [← hq] at t1 b1 d1
      refine .plain ⟨?_, by rw [uq]; omega, fun h => absurd (ue ▸ h) h49, by omega, by rw [uq]; omega, fun h => absurd (ue ▸ h) hp, fun h => absurd (ue ▸ h) h41⟩
      rw [uq]
      have hb : needE E 0 ≤ u.list.length := by
        unfold needE
        repeat' split
        all_goals first | omega | (rw [l2 (by omega)]; exact Nat.le_refl _) | (rw [l51 (by omega)]; exact Nat.le_refl _)
      omega
  have hs2 : ∀ v : Core, (v = ({ s with q := q, r := { s.r with pc := plusW s.r.pc 1 }, e := E } : Core)) → (if v.e.op = 51 then v.into (frameSoft v.e.reg v.r.cc).1 true else if v.e.op = 48 then { v with list := order 0x80 4 } else if v.e.op = 49 then { v with list := order 0x01 4 } else if v.e.op = 33 ∨ v.e.op = 37 ∨ v.e.op = 38 then { v with list := [⟨5, false⟩, ⟨5, true⟩] } else v).Inv := by
    rintro v rfl
    dsimp only
    split
    · rename_i h51
      refine key _ rfl rfl ha ⟨fun _ => ?_, fun h => by omega, fun h => by omega⟩
      have hw : (frameSoft E.reg s.r.cc).1.whole = true := by
        have hr : E.reg = 1 ∨ E.reg = 2 ∨ E.reg = 3 := by
          rcases o51 with ((h | h) | h) | h <;> simp_all
        rcases hr with hr | hr | hr <;> rw [hr] <;> rfl
      show (partsOf (frameSoft E.reg s.r.cc).1.whole).length = 12
      rw [hw]; exact k12
    split
    · exact key _ rfl rfl ha ⟨fun h => by omega, fun _ => k2, fun h => by omega⟩
    split
    · exact key _ rfl rfl ha ⟨fun h => by omega, fun h => by omega, fun _ => rfl⟩
    split
    · exact key _ rfl rfl ha ⟨fun h => by omega, fun _ => rfl, fun h => by omega⟩
    · exact key _ rfl rfl ha ⟨fun h => by omega, fun h => by omega, fun h => by omega⟩
  exact hs2 _ hs
theorem Core.Inv.do_ {s : Core} (h : s.Inv) {t : Step} {q : List Step} (hq : s.q = t :: q) (b : UInt8) : (({ s with q := q } : Core).do_ t b).Inv := by
  have hent := h.ent
  rcases h.ph with h | ⟨h, ha⟩ | ⟨q', h, hp, ha, hn, h1, h2, hl, h49, h41⟩ | ⟨q', h, hm, ho, ha, hn, h1, h2⟩ | ⟨q', h, ho, hl, hn, h1, h2, ha, hm⟩ | hP
  · rw [h] at hq; cases hq
  · rw [h] at hq; injection hq with h1 h2; subst h1 h2
    exact inv_opcode hent ha b
  · rw [h] at hq; injection hq with h1' h2'; subst h1' h2'
    exact inv_arg_post hent hp ha hn h1 h2 hl h49 h41 b
  · rw [h] at hq; injection hq with h1' h2'; subst h1' h2'
    exact inv_arg_cwai hent hm ho ha hn h1 h2 b
  · cases q' with
    | nil =>
      rw [h] at hq; injection hq with h1' h2'; subst h1' h2'
      exact inv_pull_rti hent ho hl ha hm b
    | cons t' q' =>
      rw [h] at hq; injection hq with h1' h2'; subst h1' h2'
      have a := is_of_c isP t' q' hn
      have b1 := is_of_c is1 t' q' h1
      have c := is_of_c is2 t' q' h2
      have a1 := a.1
      simp only [isP, Bool.or_eq_false_iff, decide_eq_false_iff_not] at a1
      have hk := do_like ({ s with q := q'.append [⟨9, false⟩] } : Core) t' b (by simpa [is1] using b1.1) (by simpa [is2] using c.1) a1.1 a1.2
      refine ⟨by rw [hk.e]; exact hent, .rti q' hk.q (by rw [hk.e]; exact ho) (by rw [hk.list]; exact hl) a.2 b1.2 c.2 (by rw [hk.args]; exact ha) (by rw [hk.e]; exact hm)⟩
  · have hpop := hP.pop hq
    have h1 : t.kind ≠ 1 := by
      have := hP.op
      rw [hq] at this
      have := (is_of_c is1 t q this).1
      simpa [is1] using this
    by_cases h2 : t.kind = 2
    · have hP2 := hP.arg hq h2 b
      have he : (({ s with q := q } : Core).arg b).e = s.e := by
        unfold Core.arg
        dsimp only
        have hpe : ∀ u : Core, (u.postbyte b).e = u.e := by
          intro u; unfold Core.postbyte; dsimp only; repeat' split
          all_goals rfl
        have hre : ∀ u : Core, u.ready.e = u.e := by
          intro u
          have h2 : ∀ v : Core, v.ready2.e = v.e := by
            intro v; unfold Core.ready2; repeat' split
            all_goals rfl
          unfold Core.ready; rw [h2]; exact (ready1_like u).e
        repeat' split
        all_goals first | rfl | rw [hpe] | (rw [hre, hpe]; done) | rw [hre]
      rw [show ({ s with q := q } : Core).do_ t b = ({ s with q := q } : Core).arg b from by unfold Core.do_; rw [if_neg h1, if_pos h2]]
      exact ⟨by rw [he]; exact hent, .plain hP2⟩
    by_cases h8 : t.kind = 8
    · rw [show ({ s with q := q } : Core).do_ t b = ({ s with q := q, r := s.r.set s.stack (minusW s.top 1), list := s.list.tail } : Core) from by unfold Core.do_; rw [if_neg h1, if_neg h2, if_neg (by omega), if_neg (by omega), if_pos h8]; rfl]
      exact ⟨hent, .plain (hP.shift hq (.inl h8) _)⟩
    by_cases h9 : t.kind = 9
    · have hne := Core.Inv.list ⟨hent, .plain hP⟩ hq (.inr h9)
      have hcons : ∃ x l, s.list = x :: l := by cases hsl : s.list with
        | nil => exact absurd hsl hne
        | cons x l => exact ⟨x, l, rfl⟩
      obtain ⟨x, l, hxl⟩ := hcons
      have hcond : s.e.op ≠ 49 ∨ (s.list.headD ⟨0, false⟩).reg ≠ 10 := by
        by_cases ho : s.e.op = 49
        · right
          rw [hxl]
          exact hP.rti ho x (by rw [hxl]; simp)
        · exact .inl ho
      rw [show ({ s with q := q } : Core).do_ t b = ({ s with q := q, r := (s.r.set s.stack (plusW s.top 1)).put (s.list.headD ⟨0, false⟩) b, list := s.list.tail } : Core) from by
        unfold Core.do_
        rw [if_neg h1, if_neg h2, if_neg (by omega), if_neg (by omega), if_neg h8, if_pos h9]
        unfold Core.pull
        dsimp only
        rw [if_pos hcond]
        rfl]
      exact ⟨hent, .plain (hP.shift hq (.inr h9) _)⟩
    have hk := do_like ({ s with q := q } : Core) t b h1 h2 h8 h9
    exact ⟨by rw [hk.e]; exact hent, .plain (hpop.like hk)⟩
theorem finish_like (s : Core) : s.finish.1.q = s.q ∧ s.finish.1.e = s.e := by
  unfold Core.finish
  repeat' split
  all_goals first | exact ⟨rfl, rfl⟩ | skip
  show s.last.q = s.q ∧ s.last.e = s.e
  have h1 : Like s.last1 s := by
    unfold Core.last1
    repeat' split
    all_goals first | exact ⟨rfl, rfl, rfl, rfl⟩ | exact sixteen_like _ _ | skip
    · unfold Core.inside; dsimp only; repeat' split
      all_goals exact ⟨rfl, rfl, rfl, rfl⟩
    · unfold Core.immediate; repeat' split
      all_goals exact ⟨rfl, rfl, rfl, rfl⟩
  have h2 : ∀ (u : Core) (e : Ent), (u.last2 e).q = u.q ∧ (u.last2 e).e = u.e := by
    intro u e; unfold Core.last2; dsimp only; repeat' split
    all_goals exact ⟨rfl, rfl⟩
  unfold Core.last
  exact ⟨(h2 _ _).1.trans h1.q, (h2 _ _).2.trans h1.e⟩
theorem Core.Inv.tick {s : Core} (h : s.Inv) (b : UInt8) : (s.tick b).1.Inv := by
  unfold Core.tick
  split
  · exact h
  · rename_i t q hq
    have hd := h.do_ hq b
    dsimp only
    split
    · rename_i hn
      have hf := finish_like (({ s with q := q } : Core).do_ t b)
      exact ⟨by rw [hf.2]; exact hd.ent, .idle (by rw [hf.1]; exact hn)⟩
    · exact hd
end Go.Proofs.YtkdaphkpllgmbaaGreat.Sp
namespace Go.Proofs.YtkdaphkpllgmbaaGreat.Sp
set_option linter.unusedVariables false
set_option linter.unusedSimpArgs false
theorem inv_cpu_begin {c : Cpu} (h : c.core.Inv) (k : Int) : (c.begin_ k).core.Inv := inv_begin _ h k
theorem step_core (c : Cpu) (m : Mem) (rom : Int) : ∃ d, (c.step m rom).2.1.core = (c.core.tick d).1 := by
  unfold Cpu.step
  dsimp only
  generalize (if c.core.want.1.read = true then m c.core.want.1.addr.toNat else c.core.want.1.data) = d
  refine ⟨d, ?_⟩
  generalize c.core.tick d = t
  by_cases h1 : t.2.1.end_ = 1
  · rw [if_pos h1]; rfl
  rw [if_neg h1]
  by_cases h2 : t.2.1.end_ = 2
  · rw [if_pos h2]; rfl
  rw [if_neg h2]
  by_cases h3 : t.2.1.end_ = 3
  · rw [if_pos h3]; rfl
  rw [if_neg h3]
theorem inv_cpu_step {c : Cpu} (h : c.core.Inv) (m : Mem) (rom : Int) : (c.step m rom).2.1.core.Inv := by
  obtain ⟨d, hd⟩ := step_core c m rom
  rw [hd]
  exact h.tick d
theorem inv_cycle {c : Cpu} (h : c.core.Inv) (p : Pins) (m : Mem) (rom : Int) : (c.cycle p m rom).2.1.core.Inv := by
  unfold Cpu.cycle
  extract_lets c1 xr a c2 xs xc
  have h2 : c2.core.Inv := h
  by_cases hr : p.reset = true
  · rw [if_pos hr]; exact inv_new _
  rw [if_neg hr]
  by_cases h1 : a.2 = 1
  · rw [if_pos h1]; exact h2
  rw [if_neg h1]
  by_cases h1 : a.2 = 2
  · rw [if_pos h1]; exact h2
  rw [if_neg h1]
  by_cases h1 : c2.mode = 2
  · rw [if_pos h1]; show (c2.sync p m).2.core.Inv; unfold Cpu.sync; split <;> exact h2
  rw [if_neg h1]
  by_cases h1 : c2.mode = 3
  · rw [if_pos h1]; show (c2.cwai p m).2.core.Inv; unfold Cpu.cwai; extract_lets x; by_cases hx : x.2 = true
    · rw [if_pos hx]; exact inv_cpu_begin h2 _
    · rw [if_neg hx]; exact h2
  rw [if_neg h1]
  by_cases h1 : c2.mode = 4
  · rw [if_pos h1]; exact inv_cpu_step (inv_cpu_begin h2 _) _ _
  rw [if_neg h1]
  by_cases h1 : c2.mode = 0
  · rw [if_pos h1]; split
    · exact h2
    · exact inv_cpu_step (inv_cpu_begin h2 _) _ _
  · rw [if_neg h1]; exact inv_cpu_step h2 _ _
def noPins : Pins := ⟨false, false, false, false, false, false⟩
def resetPins : Pins := ⟨true, false, false, false, false, false⟩
theorem arb_idle (kind : Int) : arbNext kind ⟨0, 0⟩ false = (⟨0, 0⟩, 0) := by
  unfold arbNext
  by_cases h : kind = 0 <;> simp [h]
def rst0 (c : Cpu) (l : Bool) (n : Regs) : Cpu := { c with latch := ⟨l, false, false⟩, arb := ⟨0, 0⟩, mode := 4, row := 0, core := Core.new n, now := n }
theorem reset_1 (c : Cpu) (m : Mem) (rom : Int) : c.cycle resetPins m rom = (⟨0xfffe, m 65534, true, false, false, false, true, false, true⟩, rst0 c false c.now, m) := rfl
def rstC (n : Regs) (q : List Step) (ea ptr : UInt16) (pc : UInt16) : Core :=
  { Core.new { n with pc := pc } with q := q, kind := 4, page := 1, stack := 4, en := (frameOf 4 n.cc).1, ea := ea, ptr := ptr }
def rst1 (c : Cpu) (n : Regs) (k : Core) : Cpu := { c with latch := ⟨false, false, false⟩, arb := ⟨0, 0⟩, mode := 1, row := 4, core := k, now := n }
theorem cyc_row (c : Cpu) (m : Mem) (rom : Int) (h : c.arb = ⟨0, 0⟩) (hm : c.mode = 1) : c.cycle noPins m rom = ({ c with latch := sample c.latch false } : Cpu).step m rom := by
  unfold Cpu.cycle
  have e : arbNext c.kind c.arb noPins.req = (⟨0, 0⟩, 0) := by rw [h]; exact arb_idle _
  extract_lets c1 xr a c2 xs xc
  have ha : a = (⟨0, 0⟩, 0) := e
  have hc2 : c2 = c1 := by show ({ c1 with arb := a.1 } : Cpu) = c1; rw [ha]; show ({ c1 with arb := ⟨0, 0⟩ } : Cpu) = c1; rw [← h]
  rw [if_neg (by simp [noPins]), hc2, ha, if_neg (by simp), if_neg (by simp)]
  have hm1 : c1.mode = 1 := hm
  rw [if_neg (by omega), if_neg (by omega), if_neg (by omega), if_neg (by omega)]
  rfl
theorem cyc_rst (c : Cpu) (m : Mem) (rom : Int) (h : c.arb = ⟨0, 0⟩) (hm : c.mode = 4) : c.cycle noPins m rom = (({ c with latch := sample c.latch false } : Cpu).begin_ 4).step m rom := by
  unfold Cpu.cycle
  have e : arbNext c.kind c.arb noPins.req = (⟨0, 0⟩, 0) := by rw [h]; exact arb_idle _
  extract_lets c1 xr a c2 xs xc
  have ha : a = (⟨0, 0⟩, 0) := e
  have hc2 : c2 = c1 := by show ({ c1 with arb := a.1 } : Cpu) = c1; rw [ha]; show ({ c1 with arb := ⟨0, 0⟩ } : Cpu) = c1; rw [← h]
  rw [if_neg (by simp [noPins]), hc2, ha, if_neg (by simp), if_neg (by simp)]
  have hm1 : c1.mode = 4 := hm
  rw [if_neg (by omega), if_neg (by omega), if_pos hm1]
  rfl
theorem begin_rst (n : Regs) : ((Core.new n).begin_ 4).1 = rstC n [⟨12, true⟩, ⟨12, false⟩, ⟨4, false⟩] 0xfffe 0 n.pc := rfl
theorem reset_2 (c : Cpu) (l : Bool) (n : Regs) (m : Mem) (rom : Int) : (rst0 c l n).cycle noPins m rom = (⟨0xfffe, m 65534, true, false, true, false, true, true, true⟩, rst1 c n (rstC n [⟨12, false⟩, ⟨4, false⟩] 0xffff (wide (m 65534)) n.pc), m) := by
  rw [cyc_rst _ _ _ rfl rfl]
  unfold Cpu.begin_
  rw [show ({ rst0 c l n with latch := sample (rst0 c l n).latch false } : Cpu).core = Core.new n from rfl, begin_rst, if_neg (show ¬ ((4 : Int) = 1 ∨ (4 : Int) = 5) from by decide), show (0xffff : UInt16) = plusW 0xfffe 1 from by decide]
  exact rfl
theorem reset_3 (c : Cpu) (n : Regs) (a : UInt8) (m : Mem) (rom : Int) : (rst1 c n (rstC n [⟨12, false⟩, ⟨4, false⟩] 0xffff (wide a) n.pc)).cycle noPins m rom = (⟨0xffff, m 65535, true, false, true, false, false, false, true⟩, rst1 c n (rstC n [⟨4, false⟩] 0xffff (wide a) (joinW (wide a) (m 65535))), m) := by
  rw [cyc_row _ _ _ rfl rfl]
  exact rfl
theorem reset_4 (c : Cpu) (n : Regs) (a v : UInt16) (m : Mem) (rom : Int) : (rst1 c n (rstC n [⟨4, false⟩] 0xffff a v)).cycle noPins m rom = (⟨0xffff, m 65535, true, false, false, true, true, false, true⟩, { rst1 c n ({ rstC n [] 0xffff a v with r := { n with cc := wb true (wb true n.cc 64) 16, dp := 0, pc := v } }) with mode := 0, row := 0, now := { n with cc := wb true (wb true n.cc 64) 16, dp := 0, pc := v } }, m) := by
  rw [cyc_row _ _ _ rfl rfl]
  exact rfl
theorem reset_cc (cc : UInt8) : wb true (wb true cc 64) 16 = cc ||| 80 := by
  have h : ∀ b : UInt8, wb true (wb true b 64) 16 = b ||| 80 := fun b => all8 (P := fun b => wb true (wb true b 64) 16 = b ||| 80) (by decide +kernel) b
  exact h cc
end Go.Proofs.YtkdaphkpllgmbaaGreat.Sp
namespace Go.Proofs.YtkdaphkpllgmbaaGreat.Sp
set_option linter.unusedVariables false
set_option linter.unusedSimpArgs false
theorem count_le (b : UInt8) : (count b).toNat ≤ 16 := by
  have h : ∀ b : UInt8, (count b).toNat ≤ 16 := fun b => all8 (P := fun b => (count b).toNat ≤ 16) (by decide +kernel) b
  exact h b
theorem len_some (k n : Int) : (some_ k n).length = n.toNat := List.length_replicate ..
theorem memory_short (g : Int) : (memoryRow g).length ≤ 1048576 := by
  unfold memoryRow
  repeat' split
  all_goals decide
theorem inside_short (op : Int) : (insideRow op).length ≤ 1048576 := by
  unfold insideRow
  repeat' split
  all_goals decide
theorem branch_short (e : Ent) (cc : UInt8) : (branchRow e cc).length ≤ 1048576 := by
  unfold branchRow
  repeat' split
  all_goals decide
theorem many_short (op : Int) (b : UInt8) : (manyRow op b).length ≤ 1048576 := by
  have hc := count_le b
  unfold manyRow
  split <;> simp [len_some] <;> omega
theorem tail_short (e : Ent) (b cc : UInt8) : (tail e b cc).length ≤ 1048576 := by
  unfold tail
  repeat' split
  all_goals first | exact memory_short _ | exact inside_short _ | exact branch_short _ _ | exact many_short _ _ | decide
theorem ahead_short (m : Int) : (ahead m).length ≤ 1048576 := by
  unfold ahead
  repeat' split
  all_goals decide
theorem behind_short (p : Post) : (behind p).length ≤ 1048576 := by
  have h1 : p.bytes.toNat ≤ 2 := by unfold Post.bytes; repeat' split
                                    all_goals decide
  have h2 : p.idle.toNat ≤ 100 := by unfold Post.idle; repeat' split
                                     all_goals decide
  unfold behind
  cases p.ind <;> simp [len_some, first_] <;> omega
theorem row_short (k : Int) : (rowOf k).length ≤ 1048576 := by
  unfold rowOf
  repeat' split
  all_goals decide
theorem order_short (b : UInt8) (r : Int) : (order b r).length ≤ 1048576 := by
  have h1 := order_count b r
  have h2 := count_le b
  omega
end Go.Proofs.YtkdaphkpllgmbaaGreat.Sp

/-
  Contracts of the register file: file.Get, file.Set; octet's High, Low, Word over bytes and words; a block as a list of cells.
  Contracts of leaves: octet.Sign, Sign5, wide.Sex, decimal.Daa, cond, index.Direct, index.steps, post's, ops.Group.
-/
import Derived.Test.YtkdaphkpllgmbaaGreatM01
import Derived.Deep.RegionHeld3
import Derived.Laws.AppendOwn
import Derived.Outline
namespace Go.Proofs.YtkdaphkpllgmbaaGreat
open Go.RowKit Sp
theorem hi_e (w : UInt16) : (w.toNat : Int) / (256 : Int) = ((hi w).toNat : Int) := by
  unfold hi; have := w.toNat_lt; rw [UInt16.toNat_toUInt8, UInt16.toNat_shiftRight]; simp [Nat.shiftRight_eq_div_pow]; omega
theorem word_e (h l : UInt8) : 256 * (h.toNat : Int) + (l.toNat : Int) = ((word h l).toNat : Int) := by
  unfold word
  have h1 := h.toNat_lt
  have h2 := l.toNat_lt
  rw [UInt16.toNat_or, UInt16.toNat_shiftLeft]
  simp only [UInt8.toNat_toUInt16]
  have e : h.toNat <<< ((8 : UInt16).toNat % 16) % 2 ^ 16 = h.toNat <<< 8 := by
    rw [show (8 : UInt16).toNat % 16 = 8 from rfl, Nat.shiftLeft_eq]; omega
  rw [e, Nat.shiftLeft_eq, Nat.mul_comm, ← Nat.two_pow_add_eq_or_of_lt (by omega)]
  omega
theorem High_t (x : UInt16) (w : World) : Calls Tryz.prog 29 #[.int .u16 (x.toNat : Int)] w fun e w' => e = .returned (.int .u8 ((hi x).toNat : Int)) ∧ w = w' := by
  have h := High_any (x.toNat : Int) w (by omega) (by have := x.toNat_lt; omega)
  rwa [hi_e] at h
theorem Low_t (x : UInt16) (w : World) : Calls Tryz.prog 30 #[.int .u16 (x.toNat : Int)] w fun e w' => e = .returned (.int .u8 ((lo x).toNat : Int)) ∧ w = w' := by
  have h := Low_any (x.toNat : Int) w (by omega) (by have := x.toNat_lt; omega)
  rwa [down] at h
theorem Word_t (h l : UInt8) (w : World) : Calls Tryz.prog 161 #[.int .u8 (h.toNat : Int), .int .u8 (l.toNat : Int)] w fun e w' => e = .returned (.int .u16 ((word h l).toNat : Int)) ∧ w = w' := by
  have k := Word_any (h.toNat : Int) (l.toNat : Int) w (by omega) (by have := h.toNat_lt; omega) (by omega) (by have := l.toNat_lt; omega)
  rwa [word_e] at k
theorem WordF_t (l : UInt8) (w : World) : Calls Tryz.prog 161 #[.int .u8 255, .int .u8 (l.toNat : Int)] w fun e w' => e = .returned (.int .u16 ((word 255 l).toNat : Int)) ∧ w = w' := Word_t 255 l w
/-! ### A block as a list of cells -/
def LBlk (w : World) (g : Nat) (t : TypeId) (l : List Value) : Prop := Blk w g t l.toArray
section
variable {w w' : World} {g : Nat} {t : TypeId} {l : List Value}
theorem LBlk.cell (h : LBlk w g t l) (i : Nat) : w.cell? ⟨g, i, none⟩ = l[i]? := (Blk.cell h i).trans (by simp)
theorem LBlk.frozen (h : LBlk w g t l) (i : Nat) : w.frozen? ⟨g, i, none⟩ = false := Blk.frozen h i
theorem LBlk.lt (h : LBlk w g t l) : g < w.heap.size := Blk.lt h
theorem LBlk.set_ (h : LBlk w g t l) (i : Nat) (u : Value) : LBlk (w.setCell ⟨g, i, none⟩ u) g t (l.set i u) := by
  have := Blk.set_ h i u
  rwa [List.setIfInBounds_toArray] at this
theorem LBlk.new (w : World) (t : TypeId) (l : List Value) : LBlk (w.alloc (.cells l.toArray t)) w.heap.size t l := Blk.new w t _
theorem LBlk.drew (h : LBlk w g t l) : LBlk w.drew g t l := h
theorem LBlk.drewN (h : LBlk w g t l) (n : Nat) : LBlk (w.drewN n) g t l := h
theorem LBlk.alloc (h : LBlk w g t l) (o : Obj) : LBlk (w.alloc o) g t l := Blk.alloc h o
theorem LBlk.far (h : LBlk w g t l) {p : Addr} (hp : g ≠ p.block) (u : Value) : LBlk (w.setCell p u) g t l := Blk.far h hp u
theorem LBlk.below {B : Nat} (h : LBlk w g t l) (hb : Below B w w') (hg : g < B) : LBlk w' g t l := Blk.below h hb hg
theorem LBlk.grown {row : Option Nat} (h : LBlk w g t l) (hb : w.grownBy w' row) (hg : some g ≠ row) : LBlk w' g t l := Blk.grown h hb hg
end
theorem grown_set (w : World) {g : Nat} {w' : World} (h : w.grownBy w' (some g)) (o : Nat) (u : Value) : w.grownBy (w'.setCell ⟨g, o, none⟩ u) (some g) :=
  ⟨h.os, h.tape, h.output, by simpa using h.size, fun k hk hne => (Below.heap_setCell w' ⟨g, o, none⟩ u k (fun e => hne (by rw [e]))).trans (h.block k hk hne)⟩
theorem grown_drewN (w : World) {r : Option Nat} {w' : World} (h : w.grownBy w' r) (n : Nat) : w.grownBy (w'.drewN n) r := ⟨h.os, h.tape, h.output, h.size, h.block⟩
theorem grown_drew (w : World) {r : Option Nat} {w' : World} (h : w.grownBy w' r) : w.grownBy w'.drew r := ⟨h.os, h.tape, h.output, h.size, h.block⟩
theorem grown_alloc (w : World) {r : Option Nat} {w' : World} (h : w.grownBy w' r) (o : Obj) : w.grownBy (w'.alloc o) r :=
  ⟨h.os, h.tape, h.output, Nat.le_trans h.size (by simp), fun k hk hne => (Below.heap_alloc w' o k (Nat.lt_of_lt_of_le hk h.size)).trans (h.block k hk hne)⟩
theorem grown_below {w w1 w2 : World} {r : Option Nat} (h : w.grownBy w1 r) (k : Below w1.heap.size w1 w2) : w.grownBy w2 r :=
  ⟨k.os.trans h.os, k.tape.trans h.tape, k.output.trans h.output, Nat.le_trans h.size k.size, fun i hi hne => (k.block i (Nat.lt_of_lt_of_le hi h.size)).trans (h.block i hi hne)⟩
theorem grown_then {w w1 w2 : World} {r : Option Nat} (h : w.grownBy w1 r) (k : w1.grownBy w2 r) : w.grownBy w2 r :=
  ⟨k.os.trans h.os, k.tape.trans h.tape, k.output.trans h.output, Nat.le_trans h.size k.size, fun i hi hne => (k.block i (Nat.lt_of_lt_of_le hi h.size) hne).trans (h.block i hi hne)⟩
/-! ### Registers in a block's first nine cells -/
def fileL (r : Regs) : List Value := [.int .u8 (r.a.toNat : Int), .int .u8 (r.b.toNat : Int), .int .u8 (r.dp.toNat : Int), .int .u8 (r.cc.toNat : Int), .int .u16 (r.x.toNat : Int), .int .u16 (r.y.toNat : Int), .int .u16 (r.u.toNat : Int), .int .u16 (r.s.toNat : Int), .int .u16 (r.pc.toNat : Int)]
theorem code_cases (c : Int) : c = 0 ∨ c = 1 ∨ c = 2 ∨ c = 3 ∨ c = 4 ∨ c = 5 ∨ c = 8 ∨ c = 9 ∨ c = 10 ∨ c = 11 ∨ (c ≠ 0 ∧ c ≠ 1 ∧ c ≠ 2 ∧ c ≠ 3 ∧ c ≠ 4 ∧ c ≠ 5 ∧ c ≠ 8 ∧ c ≠ 9 ∧ c ≠ 10 ∧ c ≠ 11) := by omega
theorem file_facts {w : World} {g : Nat} {t : TypeId} {r : Regs} {rest : List Value} (h : LBlk w g t (fileL r ++ rest)) :
    (w.cell? ⟨g, 0, none⟩ = some (.int .u8 (r.a.toNat : Int)) ∧ w.cell? ⟨g, 1, none⟩ = some (.int .u8 (r.b.toNat : Int)) ∧ w.cell? ⟨g, 2, none⟩ = some (.int .u8 (r.dp.toNat : Int)) ∧ w.cell? ⟨g, 3, none⟩ = some (.int .u8 (r.cc.toNat : Int)) ∧
    w.cell? ⟨g, 4, none⟩ = some (.int .u16 (r.x.toNat : Int)) ∧ w.cell? ⟨g, 5, none⟩ = some (.int .u16 (r.y.toNat : Int)) ∧ w.cell? ⟨g, 6, none⟩ = some (.int .u16 (r.u.toNat : Int)) ∧ w.cell? ⟨g, 7, none⟩ = some (.int .u16 (r.s.toNat : Int)) ∧ w.cell? ⟨g, 8, none⟩ = some (.int .u16 (r.pc.toNat : Int))) ∧ (∀ i, w.frozen? ⟨g, i, none⟩ = false) :=
  ⟨⟨h.cell 0, h.cell 1, h.cell 2, h.cell 3, h.cell 4, h.cell 5, h.cell 6, h.cell 7, h.cell 8⟩, h.frozen⟩
set_option maxRecDepth 100000 in
set_option maxHeartbeats 4000000 in
theorem Get_any (g : Nat) (t : TypeId) (r : Regs) (rest : List Value) (c : Int) (w : World) (h : LBlk w g t (fileL r ++ rest)) :
    Calls Tryz.prog 143 #[.pointer (some ⟨g, 0, none⟩), .int .i64 c] w fun e w' => e = .returned (.int .u16 ((r.get c).toNat : Int)) ∧ ∃ n, w' = w.drewN n := by
  obtain ⟨⟨c0, c1, c2, c3, c4, c5, c6, c7, c8⟩, hf⟩ := file_facts h
  rcases code_cases c with rfl | rfl | rfl | rfl | rfl | rfl | rfl | rfl | rfl | rfl | ⟨h0, h1, h2, h3, h4, h5, h8, h9, h10, h11⟩
  rotate_left 10
  · as_aux_lemma =>
    have e0 : (c == 0) = false := beq_eq_false_iff_ne.mpr h0
    have e1 : (c == 1) = false := beq_eq_false_iff_ne.mpr h1
    have e2 : (c == 2) = false := beq_eq_false_iff_ne.mpr h2
    have e3 : (c == 3) = false := beq_eq_false_iff_ne.mpr h3
    have e4 : (c == 4) = false := beq_eq_false_iff_ne.mpr h4
    have e5 : (c == 5) = false := beq_eq_false_iff_ne.mpr h5
    have e8 : (c == 8) = false := beq_eq_false_iff_ne.mpr h8
    have e9 : (c == 9) = false := beq_eq_false_iff_ne.mpr h9
    have e10 : (c == 10) = false := beq_eq_false_iff_ne.mpr h10
    have e11 : (c == 11) = false := beq_eq_false_iff_ne.mpr h11
    rw [show r.get c = 65535 from by simp [Regs.get, h0, h1, h2, h3, h4, h5, h8, h9, h10, h11]]
    clear h
    go_enter Tryz.func143, Tryz.ntmps143
    go_wp2
    go_ret
    exact ⟨rfl, 0, rfl⟩
  · as_aux_lemma =>
    clear h
    go_enter Tryz.func143, Tryz.ntmps143
    go_wp2
    go_quiet ((go_at_call 161; exact Calls.quiet_of_same ((Word_t _ _ _).mono fun _ _ k => ⟨k.1, k.2.symm⟩)))
    go_wp2
    go_ret
    exact ⟨rfl, _, rfl⟩
  all_goals
   as_aux_lemma =>
    clear h
    go_enter Tryz.func143, Tryz.ntmps143
    go_wp2_with (first | (go_at_call 161; refine (WordF_t _ _).mono ?_; rintro e w1 ⟨rfl, rfl⟩) | (go_at_call 161; refine (Word_t _ _ _).mono ?_; rintro e w1 ⟨rfl, rfl⟩))
    go_ret
    exact ⟨rfl, 0, rfl⟩
set_option maxRecDepth 100000 in
set_option maxHeartbeats 4000000 in
theorem Set_any (g : Nat) (t : TypeId) (r : Regs) (rest : List Value) (c : Int) (v : UInt16) (w : World) (h : LBlk w g t (fileL r ++ rest)) :
    Calls Tryz.prog 147 #[.pointer (some ⟨g, 0, none⟩), .int .i64 c, .int .u16 (v.toNat : Int)] w fun e w' => e = .returned (.bool (Regs.has c)) ∧ LBlk w' g t (fileL (r.set c v) ++ rest) ∧ w.grownBy w' (some g) := by
  have hl := h.lt
  obtain ⟨⟨c0, c1, c2, c3, c4, c5, c6, c7, c8⟩, hf⟩ := file_facts h
  have hg := World.grownBy.refl w (some g)
  rcases code_cases c with rfl | rfl | rfl | rfl | rfl | rfl | rfl | rfl | rfl | rfl | ⟨h0, h1, h2, h3, h4, h5, h8, h9, h10, h11⟩
  rotate_left 10
  · as_aux_lemma =>
    have e0 : (c == 0) = false := beq_eq_false_iff_ne.mpr h0
    have e1 : (c == 1) = false := beq_eq_false_iff_ne.mpr h1
    have e2 : (c == 2) = false := beq_eq_false_iff_ne.mpr h2
    have e3 : (c == 3) = false := beq_eq_false_iff_ne.mpr h3
    have e4 : (c == 4) = false := beq_eq_false_iff_ne.mpr h4
    have e5 : (c == 5) = false := beq_eq_false_iff_ne.mpr h5
    have e8 : (c == 8) = false := beq_eq_false_iff_ne.mpr h8
    have e9 : (c == 9) = false := beq_eq_false_iff_ne.mpr h9
    have e10 : (c == 10) = false := beq_eq_false_iff_ne.mpr h10
    have e11 : (c == 11) = false := beq_eq_false_iff_ne.mpr h11
    rw [show r.set c v = r from by simp [Regs.set, h0, h1, h2, h3, h4, h5, h8, h9, h10, h11], show Regs.has c = false from by simp [Regs.has, h0, h1, h2, h3, h4, h5, h8, h9, h10, h11]]
    go_enter Tryz.func147, Tryz.ntmps147
    go_wp2
    go_ret
    exact ⟨rfl, h, hg⟩
  · as_aux_lemma =>
    go_enter Tryz.func147, Tryz.ntmps147
    go_wp2_with (first | (go_at_call 30; refine (Low_t _ _).mono ?_; rintro e w1 ⟨rfl, rfl⟩) | (go_at_call 29; refine (High_t _ _).mono ?_; rintro e w1 ⟨rfl, rfl⟩))
    go_ret
    exact ⟨rfl, (h.set_ 0 _).set_ 1 _, grown_set w (grown_set w hg _ _) _ _⟩
  all_goals
   as_aux_lemma =>
    go_enter Tryz.func147, Tryz.ntmps147
    go_wp2_with (first | (go_at_call 30; refine (Low_t _ _).mono ?_; rintro e w1 ⟨rfl, rfl⟩))
    go_ret
    exact ⟨rfl, h.set_ _ _, grown_set w hg _ _⟩
end Go.Proofs.YtkdaphkpllgmbaaGreat
namespace Go.Proofs.YtkdaphkpllgmbaaGreat
open Go.RowKit Sp
set_option linter.unusedVariables false
theorem all_bytes (p : UInt8 → Prop) (h : ∀ n : Fin 256, p (UInt8.ofNat n.val)) (b : UInt8) : p b := by
  have k := h ⟨b.toNat, b.toNat_lt⟩
  rwa [show UInt8.ofNat b.toNat = b from UInt8.ofNat_toNat] at k
theorem has_1 (cc : UInt8) : (Go.bits .and .u8 (cc.toNat : Int) 1 == (1 : Int)) = hb cc 1 := by
  rw [show Go.bits .and .u8 (cc.toNat : Int) 1 = ((cc &&& 1).toNat : Int) from and8 cc 1, show (1 : Int) = (((1 : UInt8).toNat : Nat) : Int) from rfl, hb, Bool.eq_iff_iff, beq_iff_eq, beq_iff_eq, Int.natCast_inj, UInt8.toNat_inj]
theorem Has_1 (cc : UInt8) (t : TypeId) (w : World) (g : Nat) (hg : w.heap.size = g) :
    Calls Tryz.prog 80 #[.int .u8 (cc.toNat : Int), .slice (some ⟨g, 0, none⟩) 1 1] (w.alloc (.cells #[.int .u8 1] t)) fun e w' => e = .returned (.bool (hb cc 1)) ∧ w.alloc (.cells #[.int .u8 1] t) = w' := by
  have h := Has_new1 (cc.toNat : Int) 1 t w g hg (by decide)
  rwa [has_1] at h
theorem With_1 (cc : UInt8) (on : Bool) (t : TypeId) (w : World) (g : Nat) (hg : w.heap.size = g) :
    Calls Tryz.prog 137 #[.int .u8 (cc.toNat : Int), .bool on, .slice (some ⟨g, 0, none⟩) 1 1] (w.alloc (.cells #[.int .u8 1] t)) fun e w' => e = .returned (.int .u8 ((wb on cc 1).toNat : Int)) ∧ w.alloc (.cells #[.int .u8 1] t) = w' := by
  have h := With_new1 (cc.toNat : Int) on 1 t w g hg (by decide)
  rwa [with1_1] at h
theorem has_2 (cc : UInt8) : (Go.bits .and .u8 (cc.toNat : Int) 2 == (2 : Int)) = hb cc 2 := by
  rw [show Go.bits .and .u8 (cc.toNat : Int) 2 = ((cc &&& 2).toNat : Int) from and8 cc 2, show (2 : Int) = (((2 : UInt8).toNat : Nat) : Int) from rfl, hb, Bool.eq_iff_iff, beq_iff_eq, beq_iff_eq, Int.natCast_inj, UInt8.toNat_inj]
theorem Has_2 (cc : UInt8) (t : TypeId) (w : World) (g : Nat) (hg : w.heap.size = g) :
    Calls Tryz.prog 80 #[.int .u8 (cc.toNat : Int), .slice (some ⟨g, 0, none⟩) 1 1] (w.alloc (.cells #[.int .u8 2] t)) fun e w' => e = .returned (.bool (hb cc 2)) ∧ w.alloc (.cells #[.int .u8 2] t) = w' := by
  have h := Has_new1 (cc.toNat : Int) 2 t w g hg (by decide)
  rwa [has_2] at h
theorem With_2 (cc : UInt8) (on : Bool) (t : TypeId) (w : World) (g : Nat) (hg : w.heap.size = g) :
    Calls Tryz.prog 137 #[.int .u8 (cc.toNat : Int), .bool on, .slice (some ⟨g, 0, none⟩) 1 1] (w.alloc (.cells #[.int .u8 2] t)) fun e w' => e = .returned (.int .u8 ((wb on cc 2).toNat : Int)) ∧ w.alloc (.cells #[.int .u8 2] t) = w' := by
  have h := With_new1 (cc.toNat : Int) on 2 t w g hg (by decide)
  rwa [with1_2] at h
theorem has_4 (cc : UInt8) : (Go.bits .and .u8 (cc.toNat : Int) 4 == (4 : Int)) = hb cc 4 := by
  rw [show Go.bits .and .u8 (cc.toNat : Int) 4 = ((cc &&& 4).toNat : Int) from and8 cc 4, show (4 : Int) = (((4 : UInt8).toNat : Nat) : Int) from rfl, hb, Bool.eq_iff_iff, beq_iff_eq, beq_iff_eq, Int.natCast_inj, UInt8.toNat_inj]
theorem Has_4 (cc : UInt8) (t : TypeId) (w : World) (g : Nat) (hg : w.heap.size = g) :
    Calls Tryz.prog 80 #[.int .u8 (cc.toNat : Int), .slice (some ⟨g, 0, none⟩) 1 1] (w.alloc (.cells #[.int .u8 4] t)) fun e w' => e = .returned (.bool (hb cc 4)) ∧ w.alloc (.cells #[.int .u8 4] t) = w' := by
  have h := Has_new1 (cc.toNat : Int) 4 t w g hg (by decide)
  rwa [has_4] at h
theorem With_4 (cc : UInt8) (on : Bool) (t : TypeId) (w : World) (g : Nat) (hg : w.heap.size = g) :
    Calls Tryz.prog 137 #[.int .u8 (cc.toNat : Int), .bool on, .slice (some ⟨g, 0, none⟩) 1 1] (w.alloc (.cells #[.int .u8 4] t)) fun e w' => e = .returned (.int .u8 ((wb on cc 4).toNat : Int)) ∧ w.alloc (.cells #[.int .u8 4] t) = w' := by
  have h := With_new1 (cc.toNat : Int) on 4 t w g hg (by decide)
  rwa [with1_4] at h
theorem has_8 (cc : UInt8) : (Go.bits .and .u8 (cc.toNat : Int) 8 == (8 : Int)) = hb cc 8 := by
  rw [show Go.bits .and .u8 (cc.toNat : Int) 8 = ((cc &&& 8).toNat : Int) from and8 cc 8, show (8 : Int) = (((8 : UInt8).toNat : Nat) : Int) from rfl, hb, Bool.eq_iff_iff, beq_iff_eq, beq_iff_eq, Int.natCast_inj, UInt8.toNat_inj]
theorem Has_8 (cc : UInt8) (t : TypeId) (w : World) (g : Nat) (hg : w.heap.size = g) :
    Calls Tryz.prog 80 #[.int .u8 (cc.toNat : Int), .slice (some ⟨g, 0, none⟩) 1 1] (w.alloc (.cells #[.int .u8 8] t)) fun e w' => e = .returned (.bool (hb cc 8)) ∧ w.alloc (.cells #[.int .u8 8] t) = w' := by
  have h := Has_new1 (cc.toNat : Int) 8 t w g hg (by decide)
  rwa [has_8] at h
theorem With_8 (cc : UInt8) (on : Bool) (t : TypeId) (w : World) (g : Nat) (hg : w.heap.size = g) :
    Calls Tryz.prog 137 #[.int .u8 (cc.toNat : Int), .bool on, .slice (some ⟨g, 0, none⟩) 1 1] (w.alloc (.cells #[.int .u8 8] t)) fun e w' => e = .returned (.int .u8 ((wb on cc 8).toNat : Int)) ∧ w.alloc (.cells #[.int .u8 8] t) = w' := by
  have h := With_new1 (cc.toNat : Int) on 8 t w g hg (by decide)
  rwa [with1_8] at h
theorem has_16 (cc : UInt8) : (Go.bits .and .u8 (cc.toNat : Int) 16 == (16 : Int)) = hb cc 16 := by
  rw [show Go.bits .and .u8 (cc.toNat : Int) 16 = ((cc &&& 16).toNat : Int) from and8 cc 16, show (16 : Int) = (((16 : UInt8).toNat : Nat) : Int) from rfl, hb, Bool.eq_iff_iff, beq_iff_eq, beq_iff_eq, Int.natCast_inj, UInt8.toNat_inj]
theorem Has_16 (cc : UInt8) (t : TypeId) (w : World) (g : Nat) (hg : w.heap.size = g) :
    Calls Tryz.prog 80 #[.int .u8 (cc.toNat : Int), .slice (some ⟨g, 0, none⟩) 1 1] (w.alloc (.cells #[.int .u8 16] t)) fun e w' => e = .returned (.bool (hb cc 16)) ∧ w.alloc (.cells #[.int .u8 16] t) = w' := by
  have h := Has_new1 (cc.toNat : Int) 16 t w g hg (by decide)
  rwa [has_16] at h
theorem With_16 (cc : UInt8) (on : Bool) (t : TypeId) (w : World) (g : Nat) (hg : w.heap.size = g) :
    Calls Tryz.prog 137 #[.int .u8 (cc.toNat : Int), .bool on, .slice (some ⟨g, 0, none⟩) 1 1] (w.alloc (.cells #[.int .u8 16] t)) fun e w' => e = .returned (.int .u8 ((wb on cc 16).toNat : Int)) ∧ w.alloc (.cells #[.int .u8 16] t) = w' := by
  have h := With_new1 (cc.toNat : Int) on 16 t w g hg (by decide)
  rwa [with1_16] at h
theorem has_32 (cc : UInt8) : (Go.bits .and .u8 (cc.toNat : Int) 32 == (32 : Int)) = hb cc 32 := by
  rw [show Go.bits .and .u8 (cc.toNat : Int) 32 = ((cc &&& 32).toNat : Int) from and8 cc 32, show (32 : Int) = (((32 : UInt8).toNat : Nat) : Int) from rfl, hb, Bool.eq_iff_iff, beq_iff_eq, beq_iff_eq, Int.natCast_inj, UInt8.toNat_inj]
theorem Has_32 (cc : UInt8) (t : TypeId) (w : World) (g : Nat) (hg : w.heap.size = g) :
    Calls Tryz.prog 80 #[.int .u8 (cc.toNat : Int), .slice (some ⟨g, 0, none⟩) 1 1] (w.alloc (.cells #[.int .u8 32] t)) fun e w' => e = .returned (.bool (hb cc 32)) ∧ w.alloc (.cells #[.int .u8 32] t) = w' := by
  have h := Has_new1 (cc.toNat : Int) 32 t w g hg (by decide)
  rwa [has_32] at h
theorem With_32 (cc : UInt8) (on : Bool) (t : TypeId) (w : World) (g : Nat) (hg : w.heap.size = g) :
    Calls Tryz.prog 137 #[.int .u8 (cc.toNat : Int), .bool on, .slice (some ⟨g, 0, none⟩) 1 1] (w.alloc (.cells #[.int .u8 32] t)) fun e w' => e = .returned (.int .u8 ((wb on cc 32).toNat : Int)) ∧ w.alloc (.cells #[.int .u8 32] t) = w' := by
  have h := With_new1 (cc.toNat : Int) on 32 t w g hg (by decide)
  rwa [with1_32] at h
theorem has_64 (cc : UInt8) : (Go.bits .and .u8 (cc.toNat : Int) 64 == (64 : Int)) = hb cc 64 := by
  rw [show Go.bits .and .u8 (cc.toNat : Int) 64 = ((cc &&& 64).toNat : Int) from and8 cc 64, show (64 : Int) = (((64 : UInt8).toNat : Nat) : Int) from rfl, hb, Bool.eq_iff_iff, beq_iff_eq, beq_iff_eq, Int.natCast_inj, UInt8.toNat_inj]
theorem Has_64 (cc : UInt8) (t : TypeId) (w : World) (g : Nat) (hg : w.heap.size = g) :
    Calls Tryz.prog 80 #[.int .u8 (cc.toNat : Int), .slice (some ⟨g, 0, none⟩) 1 1] (w.alloc (.cells #[.int .u8 64] t)) fun e w' => e = .returned (.bool (hb cc 64)) ∧ w.alloc (.cells #[.int .u8 64] t) = w' := by
  have h := Has_new1 (cc.toNat : Int) 64 t w g hg (by decide)
  rwa [has_64] at h
theorem With_64 (cc : UInt8) (on : Bool) (t : TypeId) (w : World) (g : Nat) (hg : w.heap.size = g) :
    Calls Tryz.prog 137 #[.int .u8 (cc.toNat : Int), .bool on, .slice (some ⟨g, 0, none⟩) 1 1] (w.alloc (.cells #[.int .u8 64] t)) fun e w' => e = .returned (.int .u8 ((wb on cc 64).toNat : Int)) ∧ w.alloc (.cells #[.int .u8 64] t) = w' := by
  have h := With_new1 (cc.toNat : Int) on 64 t w g hg (by decide)
  rwa [with1_64] at h
theorem has_128 (cc : UInt8) : (Go.bits .and .u8 (cc.toNat : Int) 128 == (128 : Int)) = hb cc 128 := by
  rw [show Go.bits .and .u8 (cc.toNat : Int) 128 = ((cc &&& 128).toNat : Int) from and8 cc 128, show (128 : Int) = (((128 : UInt8).toNat : Nat) : Int) from rfl, hb, Bool.eq_iff_iff, beq_iff_eq, beq_iff_eq, Int.natCast_inj, UInt8.toNat_inj]
theorem Has_128 (cc : UInt8) (t : TypeId) (w : World) (g : Nat) (hg : w.heap.size = g) :
    Calls Tryz.prog 80 #[.int .u8 (cc.toNat : Int), .slice (some ⟨g, 0, none⟩) 1 1] (w.alloc (.cells #[.int .u8 128] t)) fun e w' => e = .returned (.bool (hb cc 128)) ∧ w.alloc (.cells #[.int .u8 128] t) = w' := by
  have h := Has_new1 (cc.toNat : Int) 128 t w g hg (by decide)
  rwa [has_128] at h
theorem With_128 (cc : UInt8) (on : Bool) (t : TypeId) (w : World) (g : Nat) (hg : w.heap.size = g) :
    Calls Tryz.prog 137 #[.int .u8 (cc.toNat : Int), .bool on, .slice (some ⟨g, 0, none⟩) 1 1] (w.alloc (.cells #[.int .u8 128] t)) fun e w' => e = .returned (.int .u8 ((wb on cc 128).toNat : Int)) ∧ w.alloc (.cells #[.int .u8 128] t) = w' := by
  have h := With_new1 (cc.toNat : Int) on 128 t w g hg (by decide)
  rwa [with1_128] at h
theorem With_FI (cc : UInt8) (on : Bool) (t : TypeId) (w : World) (g : Nat) (hg : w.heap.size = g) :
    Calls Tryz.prog 137 #[.int .u8 (cc.toNat : Int), .bool on, .slice (some ⟨g, 0, none⟩) 2 2] (w.alloc (.cells #[.int .u8 64, .int .u8 16] t)) fun e w' => e = .returned (.int .u8 ((wb on (wb on cc 64) 16).toNat : Int)) ∧ w.alloc (.cells #[.int .u8 64, .int .u8 16] t) = w' := by
  have h := With_new2 (cc.toNat : Int) on 64 16 t w g hg (by decide)
  rwa [with1_64, with1_16] at h
theorem sext_e (b : UInt8) : IntKind.u16.wrap (IntKind.i16.wrap (IntKind.i8.wrap (b.toNat : Int))) = ((sext b).toNat : Int) := all_bytes (fun b => IntKind.u16.wrap (IntKind.i16.wrap (IntKind.i8.wrap (b.toNat : Int))) = ((sext b).toNat : Int)) (by decide +kernel) b
set_option maxRecDepth 100000 in
set_option maxHeartbeats 4000000 in
theorem Sign_t (b : UInt8) (w : World) :
    Calls Tryz.prog 196 #[.int .u8 (b.toNat : Int)] w fun e w' => e = .returned (.int .u16 ((sext b).toNat : Int)) ∧ w = w' := by
  have hd := Lib.hid (sext_e b)
  go_enter Tryz.func196, Tryz.ntmps196
  go_wp2
  go_ret
  exact ⟨ret_int (by rw [← hd.out]; try rw [IntKind.wrap_u8]), rfl⟩
theorem sext5_e (b : UInt8) : IntKind.u16.wrap (IntKind.i16.wrap (IntKind.i8.wrap (IntKind.u8.wrap ((b.toNat : Int) * 8)) / 8)) = ((sext5 b).toNat : Int) := all_bytes (fun b => IntKind.u16.wrap (IntKind.i16.wrap (IntKind.i8.wrap (IntKind.u8.wrap ((b.toNat : Int) * 8)) / 8)) = ((sext5 b).toNat : Int)) (by decide +kernel) b
set_option maxRecDepth 100000 in
set_option maxHeartbeats 4000000 in
theorem Sign5_t (b : UInt8) (w : World) :
    Calls Tryz.prog 232 #[.int .u8 (b.toNat : Int)] w fun e w' => e = .returned (.int .u16 ((sext5 b).toNat : Int)) ∧ w = w' := by
  have hd := Lib.hid (sext5_e b)
  go_enter Tryz.func232, Tryz.ntmps232
  go_wp2
  go_ret
  exact ⟨ret_int (by rw [← hd.out]; try rw [IntKind.wrap_u8]), rfl⟩
set_option maxRecDepth 100000 in
set_option maxHeartbeats 4000000 in
theorem Sex_t (b cc : UInt8) (w : World) :
    Calls Tryz.prog 218 #[.int .u8 (b.toNat : Int), .int .u8 (cc.toNat : Int)] w fun e w' => e = .returned (.tuple #[.int .u16 ((sext b).toNat : Int), .int .u8 ((nzW cc (sext b)).toNat : Int)]) ∧ Below w.heap.size w w' := by
  go_enter Tryz.func218, Tryz.ntmps218
  go_wp2_with (first | (go_at_call 196; refine (Sign_t _ _).mono ?_; rintro e w1 ⟨rfl, rfl⟩) | (go_at_call 237; refine (nzw_t _ _ _).mono ?_; rintro e w1 ⟨rfl, hb⟩))
  go_ret2
  exact ⟨rfl, by repeat (first | exact Below.refl _ _ | apply below_alloc | apply Below.drew | (refine below_then ?_ (by assumption)))⟩
set_option maxRecDepth 100000 in
set_option maxHeartbeats 4000000 in
theorem postKind_t (low : Int) (w : World) :
    Calls Tryz.prog 233 #[.int .u8 low] w fun e w' => e = .returned (.int .i64 (postKind low)) ∧ w = w' := by
  rcases (show low = 0 ∨ low = 1 ∨ low = 2 ∨ low = 3 ∨ low = 5 ∨ low = 6 ∨ low = 8 ∨ low = 9 ∨ low = 11 ∨ low = 12 ∨ low = 13 ∨ low = 15 ∨ (low ≠ 0 ∧ low ≠ 1 ∧ low ≠ 2 ∧ low ≠ 3 ∧ low ≠ 5 ∧ low ≠ 6 ∧ low ≠ 8 ∧ low ≠ 9 ∧ low ≠ 11 ∧ low ≠ 12 ∧ low ≠ 13 ∧ low ≠ 15) from by omega) with rfl | rfl | rfl | rfl | rfl | rfl | rfl | rfl | rfl | rfl | rfl | rfl | ⟨h0, h1, h2, h3, h5, h6, h8, h9, h11, h12, h13, h15⟩
  rotate_left 12
  · as_aux_lemma =>
    have e0 : (low == 0) = false := beq_eq_false_iff_ne.mpr h0
    have e1 : (low == 1) = false := beq_eq_false_iff_ne.mpr h1
    have e2 : (low == 2) = false := beq_eq_false_iff_ne.mpr h2
    have e3 : (low == 3) = false := beq_eq_false_iff_ne.mpr h3
    have e5 : (low == 5) = false := beq_eq_false_iff_ne.mpr h5
    have e6 : (low == 6) = false := beq_eq_false_iff_ne.mpr h6
    have e8 : (low == 8) = false := beq_eq_false_iff_ne.mpr h8
    have e9 : (low == 9) = false := beq_eq_false_iff_ne.mpr h9
    have e11 : (low == 11) = false := beq_eq_false_iff_ne.mpr h11
    have e12 : (low == 12) = false := beq_eq_false_iff_ne.mpr h12
    have e13 : (low == 13) = false := beq_eq_false_iff_ne.mpr h13
    have e15 : (low == 15) = false := beq_eq_false_iff_ne.mpr h15
    rw [show postKind low = 0 from by simp [postKind, h0, h1, h2, h3, h5, h6, h8, h9, h11, h12, h13, h15]]
    go_enter Tryz.func233, Tryz.ntmps233
    go_wp2
    go_ret
    exact ⟨rfl, rfl⟩
  all_goals
   as_aux_lemma =>
    go_enter Tryz.func233, Tryz.ntmps233
    go_wp2
    go_ret
    exact ⟨rfl, rfl⟩
set_option maxRecDepth 100000 in
set_option maxHeartbeats 4000000 in
theorem steps_t (k : Int) (w : World) :
    Calls Tryz.prog 235 #[.int .i64 k] w fun e w' => e = .returned (.tuple #[.int .u16 ((steps k).1.toNat : Int), .int .u16 ((steps k).2.toNat : Int)]) ∧ w = w' := by
  rcases (show k = 7 ∨ k = 8 ∨ k = 9 ∨ k = 10 ∨ (k ≠ 7 ∧ k ≠ 8 ∧ k ≠ 9 ∧ k ≠ 10) from by omega) with rfl | rfl | rfl | rfl | ⟨h7, h8, h9, h10⟩
  rotate_left 4
  · as_aux_lemma =>
    have e7 : (k == 7) = false := beq_eq_false_iff_ne.mpr h7
    have e8 : (k == 8) = false := beq_eq_false_iff_ne.mpr h8
    have e9 : (k == 9) = false := beq_eq_false_iff_ne.mpr h9
    have e10 : (k == 10) = false := beq_eq_false_iff_ne.mpr h10
    rw [show steps k = (0, 0) from by simp [steps, h7, h8, h9, h10]]
    go_enter Tryz.func235, Tryz.ntmps235
    go_wp2
    go_ret2
    exact ⟨rfl, rfl⟩
  all_goals
   as_aux_lemma =>
    go_enter Tryz.func235, Tryz.ntmps235
    go_wp2
    go_ret2
    exact ⟨rfl, rfl⟩
set_option maxRecDepth 100000 in
set_option maxHeartbeats 4000000 in
theorem group_t (op : Int) (w : World) :
    Calls Tryz.prog 170 #[.int .i64 op] w fun e w' => e = .returned (.int .i64 (group op)) ∧ w = w' := by
  rcases (show op = 2 ∨ op = 3 ∨ op = 4 ∨ op = 5 ∨ op = 6 ∨ op = 7 ∨ op = 8 ∨ op = 9 ∨ op = 10 ∨ op = 11 ∨ op = 12 ∨ op = 13 ∨ op = 14 ∨ op = 15 ∨ op = 16 ∨ op = 17 ∨ op = 18 ∨ op = 19 ∨ op = 20 ∨ op = 21 ∨ op = 22 ∨ op = 23 ∨ op = 24 ∨ op = 25 ∨ op = 26 ∨ op = 27 ∨ op = 28 ∨ op = 29 ∨ op = 32 ∨ op = 33 ∨ (op ≠ 2 ∧ op ≠ 3 ∧ op ≠ 4 ∧ op ≠ 5 ∧ op ≠ 6 ∧ op ≠ 7 ∧ op ≠ 8 ∧ op ≠ 9 ∧ op ≠ 10 ∧ op ≠ 11 ∧ op ≠ 12 ∧ op ≠ 13 ∧ op ≠ 14 ∧ op ≠ 15 ∧ op ≠ 16 ∧ op ≠ 17 ∧ op ≠ 18 ∧ op ≠ 19 ∧ op ≠ 20 ∧ op ≠ 21 ∧ op ≠ 22 ∧ op ≠ 23 ∧ op ≠ 24 ∧ op ≠ 25 ∧ op ≠ 26 ∧ op ≠ 27 ∧ op ≠ 28 ∧ op ≠ 29 ∧ op ≠ 32 ∧ op ≠ 33) from by omega) with rfl | rfl | rfl | rfl | rfl | rfl | rfl | rfl | rfl | rfl | rfl | rfl | rfl | rfl | rfl | rfl | rfl | rfl | rfl | rfl | rfl | rfl | rfl | rfl | rfl | rfl | rfl | rfl | rfl | rfl | ⟨h2, h3, h4, h5, h6, h7, h8, h9, h10, h11, h12, h13, h14, h15, h16, h17, h18, h19, h20, h21, h22, h23, h24, h25, h26, h27, h28, h29, h32, h33⟩
  rotate_left 30
  · as_aux_lemma =>
    have e2 : (op == 2) = false := beq_eq_false_iff_ne.mpr h2
    have e3 : (op == 3) = false := beq_eq_false_iff_ne.mpr h3
    have e4 : (op == 4) = false := beq_eq_false_iff_ne.mpr h4
    have e5 : (op == 5) = false := beq_eq_false_iff_ne.mpr h5
    have e6 : (op == 6) = false := beq_eq_false_iff_ne.mpr h6
    have e7 : (op == 7) = false := beq_eq_false_iff_ne.mpr h7
    have e8 : (op == 8) = false := beq_eq_false_iff_ne.mpr h8
    have e9 : (op == 9) = false := beq_eq_false_iff_ne.mpr h9
    have e10 : (op == 10) = false := beq_eq_false_iff_ne.mpr h10
    have e11 : (op == 11) = false := beq_eq_false_iff_ne.mpr h11
    have e12 : (op == 12) = false := beq_eq_false_iff_ne.mpr h12
    have e13 : (op == 13) = false := beq_eq_false_iff_ne.mpr h13
    have e14 : (op == 14) = false := beq_eq_false_iff_ne.mpr h14
    have e15 : (op == 15) = false := beq_eq_false_iff_ne.mpr h15
    have e16 : (op == 16) = false := beq_eq_false_iff_ne.mpr h16
    have e17 : (op == 17) = false := beq_eq_false_iff_ne.mpr h17
    have e18 : (op == 18) = false := beq_eq_false_iff_ne.mpr h18
    have e19 : (op == 19) = false := beq_eq_false_iff_ne.mpr h19
    have e20 : (op == 20) = false := beq_eq_false_iff_ne.mpr h20
    have e21 : (op == 21) = false := beq_eq_false_iff_ne.mpr h21
    have e22 : (op == 22) = false := beq_eq_false_iff_ne.mpr h22
    have e23 : (op == 23) = false := beq_eq_false_iff_ne.mpr h23
    have e24 : (op == 24) = false := beq_eq_false_iff_ne.mpr h24
    have e25 : (op == 25) = false := beq_eq_false_iff_ne.mpr h25
    have e26 : (op == 26) = false := beq_eq_false_iff_ne.mpr h26
    have e27 : (op == 27) = false := beq_eq_false_iff_ne.mpr h27
    have e28 : (op == 28) = false := beq_eq_false_iff_ne.mpr h28
    have e29 : (op == 29) = false := beq_eq_false_iff_ne.mpr h29
    have e32 : (op == 32) = false := beq_eq_false_iff_ne.mpr h32
    have e33 : (op == 33) = false := beq_eq_false_iff_ne.mpr h33
    have hr : ¬ (13 ≤ op ∧ op ≤ 23) := by omega
    rw [show group op = 0 from by unfold group; rw [if_neg (by omega), if_neg (by omega), if_neg (by omega), if_neg (by omega), if_neg (by omega), if_neg (by omega), if_neg (by omega), if_neg (by omega), if_neg (by omega), if_neg hr]]
    have hs : op < 13 ∨ 23 < op := by omega
    clear hr
    rcases hs with hs | hs
    · have hq : decide (13 ≤ op) = false := by simp; omega
      go_enter Tryz.func170, Tryz.ntmps170
      go_wp2
      go_ret
      exact ⟨rfl, rfl⟩
    · have hq : decide (13 ≤ op) = true := by simp; omega
      have hq2 : decide (op ≤ 23) = false := by simp; omega
      go_enter Tryz.func170, Tryz.ntmps170
      go_wp2
      go_ret
      exact ⟨rfl, rfl⟩
  all_goals
   as_aux_lemma =>
    go_enter Tryz.func170, Tryz.ntmps170
    go_wp2
    go_ret
    exact ⟨rfl, rfl⟩
end Go.Proofs.YtkdaphkpllgmbaaGreat

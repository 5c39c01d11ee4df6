/-
  The core's block: what its 77 cells hold; stores into it; contracts of the register file's and the queue's methods at it.
-/
import Derived.Test.YtkdaphkpllgmbaaGreatM08
import Derived.Test.YtkdaphkpllgmbaaGreatM09
namespace Go.Proofs.YtkdaphkpllgmbaaGreat
open Go.RowKit Sp
set_option linter.unusedVariables false
def restL (s : Core) (lv : Value) : List Value := [.int .i64 s.kind, .int .i64 s.page, .int .i64 s.e.op, .int .i64 s.e.mode, .int .i64 s.e.reg, .int .u8 (s.post.toNat : Int), .int .i64 s.args, .int .u16 (s.value.toNat : Int), .int .u16 (s.ea.toNat : Int), .int .u16 (s.word.toNat : Int), .int .u16 (s.ptr.toNat : Int), lv, .int .i64 s.stack, .int .u8 (s.en.pushed.toNat : Int), .int .u8 (s.en.then_.toNat : Int), .int .u16 (s.en.vector.toNat : Int), .bool s.en.whole, .bool s.loads]
/-- A slice of parts that is kept: its cells lie in a block of parts. -/
def ListOk (w : World) (A : Option Addr) (l : List Part) : Prop := 0 < l.length → ∃ g off cs, A = some ⟨g, off, none⟩ ∧ Blk w g 219 cs ∧ ∀ j u, (partsV l)[j]? = some u → cs[off + j]? = some u
theorem ListOk.nil_ (w : World) (A : Option Addr) : ListOk w A [] := fun h => absurd h (by simp)
theorem ListOk.keep {w w' : World} {A : Option Addr} {l : List Part} (h : ListOk w A l) (hk : ∀ g cs, Blk w g 219 cs → Blk w' g 219 cs) : ListOk w' A l := fun hn => by
  obtain ⟨g, off, cs, h1, h2, h3⟩ := h hn
  exact ⟨g, off, cs, h1, hk g cs h2, h3⟩
theorem ListOk.below {w w' : World} {A : Option Addr} {l : List Part} (h : ListOk w A l) (hb : Below w.heap.size w w') : ListOk w' A l := h.keep fun g cs hg => hg.below hb hg.lt
theorem ListOk.grown {w w' : World} {A : Option Addr} {l : List Part} {p : Nat} {t : TypeId} {cs : Array Value} (h : ListOk w A l) (hp : Blk w p t cs) (ht : 219 ≠ t) (hg : w.grownBy w' (some p)) : ListOk w' A l :=
  h.keep fun g cs' hgb => hgb.grown hg (fun e => by injection e with e; exact Blk.ne_ hgb hp ht e)
theorem ListOk.far {w : World} {A : Option Addr} {l : List Part} {p : Nat} {t : TypeId} {cs : Array Value} (h : ListOk w A l) (hp : Blk w p t cs) (ht : 219 ≠ t) (o : Nat) (u : Value) : ListOk (w.setCell ⟨p, o, none⟩ u) A l :=
  h.keep fun g cs' hgb => hgb.far (p := ⟨p, o, none⟩) (Blk.ne_ hgb hp ht) u
theorem ListOk.own {w : World} {base : Nat} {A : Option Addr} {n c : Nat} {l : List Part} (h : w.ownsRow base 219 2 (.slice A n c) n (partsV l)) : ListOk w A l := fun hn => by
  rcases h.2 with ⟨h1, h2⟩ | ⟨g, cap, cur, h1, _, h3, _, _, _, h5⟩
  · have := h.1
    rw [partsV_length, h2] at this
    omega
  · injection h1 with hA _ _
    refine ⟨g, 0, cur, hA, h3, fun j u hu => ?_⟩
    rw [Nat.zero_add, ← Array.getElem?_toList]
    rw [← h5, List.getElem?_take] at hu
    split at hu
    · exact hu
    · cases hu
theorem ListOk.head {w : World} {A : Option Addr} {x : Part} {l : List Part} (h : ListOk w A (x :: l)) : ∃ g off, A = some ⟨g, off, none⟩ ∧ w.cell? ⟨g, off, none⟩ = some (.int .i64 x.reg) ∧ w.cell? ⟨g, off + 1, none⟩ = some (.bool x.high) ∧ g < w.heap.size := by
  obtain ⟨g, off, cs, h1, h2, h3⟩ := h (by simp)
  refine ⟨g, off, h1, ?_, ?_, h2.lt⟩
  · rw [h2.cell off]; exact h3 0 _ rfl
  · rw [h2.cell (off + 1)]; exact h3 1 _ rfl
theorem ListOk.tail {w : World} {g off : Nat} {x : Part} {l : List Part} (h : ListOk w (some ⟨g, off, none⟩) (x :: l)) : ListOk w (some ⟨g, off + 2, none⟩) l := fun hn => by
  obtain ⟨g', off', cs, h1, h2, h3⟩ := h (by simp)
  injection h1 with h1
  injection h1 with hg ho _
  subst hg ho
  refine ⟨g, off + 2, cs, rfl, h2, fun j u hu => ?_⟩
  have := h3 (2 + j) u (by rw [Nat.add_comm]; exact hu)
  rwa [← Nat.add_assoc] at this
structure CoreIn (p : Nat) (s : Core) (w : World) (ring : List Value) (a : Nat) (A : Option Addr) (c : Nat) : Prop where
  blk : LBlk w p 209 (qL s.r ring a s.q.length (restL s (.slice A s.list.length c)))
  ring : RingOf ring a s.q
  list : ListOk w A s.list
  cap : s.list.length ≤ c
def CoreAt (p : Nat) (s : Core) (w : World) : Prop := ∃ ring a A c, CoreIn p s w ring a A c
theorem CoreAt.lt {p : Nat} {s : Core} {w : World} (h : CoreAt p s w) : p < w.heap.size := by obtain ⟨_, _, _, _, h⟩ := h; exact h.blk.lt
theorem core_part : 219 ≠ 209 := by decide
theorem CoreAt.below {p : Nat} {s : Core} {w w' : World} (h : CoreAt p s w) (hb : Below w.heap.size w w') : CoreAt p s w' := by
  obtain ⟨ring, a, A, c, h⟩ := h
  exact ⟨ring, a, A, c, h.blk.below hb h.blk.lt, h.ring, h.list.below hb, h.cap⟩
theorem CoreAt.alloc {p : Nat} {s : Core} {w : World} (h : CoreAt p s w) (o : Obj) : CoreAt p s (w.alloc o) := h.below (below_alloc (Below.refl _ _) _)
theorem CoreAt.drew {p : Nat} {s : Core} {w : World} (h : CoreAt p s w) : CoreAt p s w.drew := h.below (Below.refl _ _).drew
theorem CoreAt.drewN {p : Nat} {s : Core} {w : World} (h : CoreAt p s w) (n : Nat) : CoreAt p s (w.drewN n) := h.below (below_drewN (Below.refl _ _) n)
theorem CoreAt.congr {p : Nat} {s s' : Core} {w : World} (h : CoreAt p s w) (e : s = s') : CoreAt p s' w := e ▸ h
/-- A store into a block that is new, or of another kind. -/
theorem CoreAt.far {p x : Nat} {s : Core} {w : World} {t : TypeId} {cs : Array Value} (h : CoreAt p s w) (hx : Blk w x t cs) (h1 : 209 ≠ t) (h2 : 219 ≠ t) (o : Nat) (u : Value) : CoreAt p s (w.setCell ⟨x, o, none⟩ u) := by
  obtain ⟨ring, a, A, c, h⟩ := h
  exact ⟨ring, a, A, c, h.blk.far (p := ⟨x, o, none⟩) (Blk.ne_ h.blk hx h1) u, h.ring, h.list.far hx h2 o u, h.cap⟩
theorem core_facts {p : Nat} {s : Core} {w : World} {ring : List Value} {a : Nat} {A : Option Addr} {c : Nat} (h : CoreIn p s w ring a A c) :
    (w.cell? ⟨p, 0, none⟩ = some (.int .u8 (s.r.a.toNat : Int)) ∧ w.cell? ⟨p, 1, none⟩ = some (.int .u8 (s.r.b.toNat : Int)) ∧ w.cell? ⟨p, 2, none⟩ = some (.int .u8 (s.r.dp.toNat : Int)) ∧ w.cell? ⟨p, 3, none⟩ = some (.int .u8 (s.r.cc.toNat : Int)) ∧ w.cell? ⟨p, 4, none⟩ = some (.int .u16 (s.r.x.toNat : Int)) ∧ w.cell? ⟨p, 5, none⟩ = some (.int .u16 (s.r.y.toNat : Int)) ∧ w.cell? ⟨p, 6, none⟩ = some (.int .u16 (s.r.u.toNat : Int)) ∧ w.cell? ⟨p, 7, none⟩ = some (.int .u16 (s.r.s.toNat : Int)) ∧ w.cell? ⟨p, 8, none⟩ = some (.int .u16 (s.r.pc.toNat : Int)) ∧ w.cell? ⟨p, 59, none⟩ = some (.int .i64 s.kind) ∧ w.cell? ⟨p, 60, none⟩ = some (.int .i64 s.page) ∧ w.cell? ⟨p, 61, none⟩ = some (.int .i64 s.e.op) ∧ w.cell? ⟨p, 62, none⟩ = some (.int .i64 s.e.mode) ∧ w.cell? ⟨p, 63, none⟩ = some (.int .i64 s.e.reg) ∧ w.cell? ⟨p, 64, none⟩ = some (.int .u8 (s.post.toNat : Int)) ∧ w.cell? ⟨p, 65, none⟩ = some (.int .i64 s.args) ∧ w.cell? ⟨p, 66, none⟩ = some (.int .u16 (s.value.toNat : Int)) ∧ w.cell? ⟨p, 67, none⟩ = some (.int .u16 (s.ea.toNat : Int)) ∧ w.cell? ⟨p, 68, none⟩ = some (.int .u16 (s.word.toNat : Int)) ∧ w.cell? ⟨p, 69, none⟩ = some (.int .u16 (s.ptr.toNat : Int)) ∧ w.cell? ⟨p, 71, none⟩ = some (.int .i64 s.stack) ∧ w.cell? ⟨p, 72, none⟩ = some (.int .u8 (s.en.pushed.toNat : Int)) ∧ w.cell? ⟨p, 73, none⟩ = some (.int .u8 (s.en.then_.toNat : Int)) ∧ w.cell? ⟨p, 74, none⟩ = some (.int .u16 (s.en.vector.toNat : Int)) ∧ w.cell? ⟨p, 75, none⟩ = some (.bool s.en.whole) ∧ w.cell? ⟨p, 76, none⟩ = some (.bool s.loads) ∧ w.cell? ⟨p, 70, none⟩ = some (.slice A s.list.length c)) ∧ (∀ i, w.frozen? ⟨p, i, none⟩ = false) :=
  ⟨⟨(h.blk.cell 0), (h.blk.cell 1), (h.blk.cell 2), (h.blk.cell 3), (h.blk.cell 4), (h.blk.cell 5), (h.blk.cell 6), (h.blk.cell 7), (h.blk.cell 8), ((h.blk.cell 59).trans (qL_tail h.ring.size 2)), ((h.blk.cell 60).trans (qL_tail h.ring.size 3)), ((h.blk.cell 61).trans (qL_tail h.ring.size 4)), ((h.blk.cell 62).trans (qL_tail h.ring.size 5)), ((h.blk.cell 63).trans (qL_tail h.ring.size 6)), ((h.blk.cell 64).trans (qL_tail h.ring.size 7)), ((h.blk.cell 65).trans (qL_tail h.ring.size 8)), ((h.blk.cell 66).trans (qL_tail h.ring.size 9)), ((h.blk.cell 67).trans (qL_tail h.ring.size 10)), ((h.blk.cell 68).trans (qL_tail h.ring.size 11)), ((h.blk.cell 69).trans (qL_tail h.ring.size 12)), ((h.blk.cell 71).trans (qL_tail h.ring.size 14)), ((h.blk.cell 72).trans (qL_tail h.ring.size 15)), ((h.blk.cell 73).trans (qL_tail h.ring.size 16)), ((h.blk.cell 74).trans (qL_tail h.ring.size 17)), ((h.blk.cell 75).trans (qL_tail h.ring.size 18)), ((h.blk.cell 76).trans (qL_tail h.ring.size 19)), (h.blk.cell 70).trans (qL_tail h.ring.size 13)⟩, h.blk.frozen⟩
theorem CoreIn.put {p : Nat} {s s' : Core} {w : World} {ring : List Value} {a : Nat} {A : Option Addr} {c : Nat} (h : CoreIn p s w ring a A c) (i : Nat) (u : Value) (hq : s'.q = s.q) (hl : s'.list = s.list)
    (hc : (qL s.r ring a s.q.length (restL s (.slice A s.list.length c))).set i u = qL s'.r ring a s'.q.length (restL s' (.slice A s'.list.length c))) : CoreIn p s' (w.setCell ⟨p, i, none⟩ u) ring a A c := by
  refine ⟨?_, hq ▸ h.ring, hl ▸ h.list.far h.blk core_part i u, hl ▸ h.cap⟩
  rw [← hc]
  exact h.blk.set_ i u
theorem CoreAt.set_a {p : Nat} {s : Core} {w : World} (h : CoreAt p s w) (v : UInt8) : CoreAt p { s with r := { s.r with a := v } } (w.setCell ⟨p, 0, none⟩ (.int .u8 (v.toNat : Int))) := by
  obtain ⟨ring, a, A, c, h⟩ := h
  exact ⟨ring, a, A, c, h.put 0 _ rfl rfl rfl⟩
theorem CoreAt.set_b {p : Nat} {s : Core} {w : World} (h : CoreAt p s w) (v : UInt8) : CoreAt p { s with r := { s.r with b := v } } (w.setCell ⟨p, 1, none⟩ (.int .u8 (v.toNat : Int))) := by
  obtain ⟨ring, a, A, c, h⟩ := h
  exact ⟨ring, a, A, c, h.put 1 _ rfl rfl rfl⟩
theorem CoreAt.set_dp {p : Nat} {s : Core} {w : World} (h : CoreAt p s w) (v : UInt8) : CoreAt p { s with r := { s.r with dp := v } } (w.setCell ⟨p, 2, none⟩ (.int .u8 (v.toNat : Int))) := by
  obtain ⟨ring, a, A, c, h⟩ := h
  exact ⟨ring, a, A, c, h.put 2 _ rfl rfl rfl⟩
theorem CoreAt.set_cc {p : Nat} {s : Core} {w : World} (h : CoreAt p s w) (v : UInt8) : CoreAt p { s with r := { s.r with cc := v } } (w.setCell ⟨p, 3, none⟩ (.int .u8 (v.toNat : Int))) := by
  obtain ⟨ring, a, A, c, h⟩ := h
  exact ⟨ring, a, A, c, h.put 3 _ rfl rfl rfl⟩
theorem CoreAt.set_x {p : Nat} {s : Core} {w : World} (h : CoreAt p s w) (v : UInt16) : CoreAt p { s with r := { s.r with x := v } } (w.setCell ⟨p, 4, none⟩ (.int .u16 (v.toNat : Int))) := by
  obtain ⟨ring, a, A, c, h⟩ := h
  exact ⟨ring, a, A, c, h.put 4 _ rfl rfl rfl⟩
theorem CoreAt.set_y {p : Nat} {s : Core} {w : World} (h : CoreAt p s w) (v : UInt16) : CoreAt p { s with r := { s.r with y := v } } (w.setCell ⟨p, 5, none⟩ (.int .u16 (v.toNat : Int))) := by
  obtain ⟨ring, a, A, c, h⟩ := h
  exact ⟨ring, a, A, c, h.put 5 _ rfl rfl rfl⟩
theorem CoreAt.set_u {p : Nat} {s : Core} {w : World} (h : CoreAt p s w) (v : UInt16) : CoreAt p { s with r := { s.r with u := v } } (w.setCell ⟨p, 6, none⟩ (.int .u16 (v.toNat : Int))) := by
  obtain ⟨ring, a, A, c, h⟩ := h
  exact ⟨ring, a, A, c, h.put 6 _ rfl rfl rfl⟩
theorem CoreAt.set_s {p : Nat} {s : Core} {w : World} (h : CoreAt p s w) (v : UInt16) : CoreAt p { s with r := { s.r with s := v } } (w.setCell ⟨p, 7, none⟩ (.int .u16 (v.toNat : Int))) := by
  obtain ⟨ring, a, A, c, h⟩ := h
  exact ⟨ring, a, A, c, h.put 7 _ rfl rfl rfl⟩
theorem CoreAt.set_pc {p : Nat} {s : Core} {w : World} (h : CoreAt p s w) (v : UInt16) : CoreAt p { s with r := { s.r with pc := v } } (w.setCell ⟨p, 8, none⟩ (.int .u16 (v.toNat : Int))) := by
  obtain ⟨ring, a, A, c, h⟩ := h
  exact ⟨ring, a, A, c, h.put 8 _ rfl rfl rfl⟩
theorem CoreAt.set_kind {p : Nat} {s : Core} {w : World} (h : CoreAt p s w) (v : Int) : CoreAt p { s with kind := v } (w.setCell ⟨p, 59, none⟩ (.int .i64 v)) := by
  obtain ⟨ring, a, A, c, h⟩ := h
  exact ⟨ring, a, A, c, h.put 59 _ rfl rfl (qL_settail h.ring.size 2 _)⟩
theorem CoreAt.set_page {p : Nat} {s : Core} {w : World} (h : CoreAt p s w) (v : Int) : CoreAt p { s with page := v } (w.setCell ⟨p, 60, none⟩ (.int .i64 v)) := by
  obtain ⟨ring, a, A, c, h⟩ := h
  exact ⟨ring, a, A, c, h.put 60 _ rfl rfl (qL_settail h.ring.size 3 _)⟩
theorem CoreAt.set_op {p : Nat} {s : Core} {w : World} (h : CoreAt p s w) (v : Int) : CoreAt p { s with e := { s.e with op := v } } (w.setCell ⟨p, 61, none⟩ (.int .i64 v)) := by
  obtain ⟨ring, a, A, c, h⟩ := h
  exact ⟨ring, a, A, c, h.put 61 _ rfl rfl (qL_settail h.ring.size 4 _)⟩
theorem CoreAt.set_mode {p : Nat} {s : Core} {w : World} (h : CoreAt p s w) (v : Int) : CoreAt p { s with e := { s.e with mode := v } } (w.setCell ⟨p, 62, none⟩ (.int .i64 v)) := by
  obtain ⟨ring, a, A, c, h⟩ := h
  exact ⟨ring, a, A, c, h.put 62 _ rfl rfl (qL_settail h.ring.size 5 _)⟩
theorem CoreAt.set_reg {p : Nat} {s : Core} {w : World} (h : CoreAt p s w) (v : Int) : CoreAt p { s with e := { s.e with reg := v } } (w.setCell ⟨p, 63, none⟩ (.int .i64 v)) := by
  obtain ⟨ring, a, A, c, h⟩ := h
  exact ⟨ring, a, A, c, h.put 63 _ rfl rfl (qL_settail h.ring.size 6 _)⟩
theorem CoreAt.set_post {p : Nat} {s : Core} {w : World} (h : CoreAt p s w) (v : UInt8) : CoreAt p { s with post := v } (w.setCell ⟨p, 64, none⟩ (.int .u8 (v.toNat : Int))) := by
  obtain ⟨ring, a, A, c, h⟩ := h
  exact ⟨ring, a, A, c, h.put 64 _ rfl rfl (qL_settail h.ring.size 7 _)⟩
theorem CoreAt.set_args {p : Nat} {s : Core} {w : World} (h : CoreAt p s w) (v : Int) : CoreAt p { s with args := v } (w.setCell ⟨p, 65, none⟩ (.int .i64 v)) := by
  obtain ⟨ring, a, A, c, h⟩ := h
  exact ⟨ring, a, A, c, h.put 65 _ rfl rfl (qL_settail h.ring.size 8 _)⟩
theorem CoreAt.set_value {p : Nat} {s : Core} {w : World} (h : CoreAt p s w) (v : UInt16) : CoreAt p { s with value := v } (w.setCell ⟨p, 66, none⟩ (.int .u16 (v.toNat : Int))) := by
  obtain ⟨ring, a, A, c, h⟩ := h
  exact ⟨ring, a, A, c, h.put 66 _ rfl rfl (qL_settail h.ring.size 9 _)⟩
theorem CoreAt.set_ea {p : Nat} {s : Core} {w : World} (h : CoreAt p s w) (v : UInt16) : CoreAt p { s with ea := v } (w.setCell ⟨p, 67, none⟩ (.int .u16 (v.toNat : Int))) := by
  obtain ⟨ring, a, A, c, h⟩ := h
  exact ⟨ring, a, A, c, h.put 67 _ rfl rfl (qL_settail h.ring.size 10 _)⟩
theorem CoreAt.set_word {p : Nat} {s : Core} {w : World} (h : CoreAt p s w) (v : UInt16) : CoreAt p { s with word := v } (w.setCell ⟨p, 68, none⟩ (.int .u16 (v.toNat : Int))) := by
  obtain ⟨ring, a, A, c, h⟩ := h
  exact ⟨ring, a, A, c, h.put 68 _ rfl rfl (qL_settail h.ring.size 11 _)⟩
theorem CoreAt.set_ptr {p : Nat} {s : Core} {w : World} (h : CoreAt p s w) (v : UInt16) : CoreAt p { s with ptr := v } (w.setCell ⟨p, 69, none⟩ (.int .u16 (v.toNat : Int))) := by
  obtain ⟨ring, a, A, c, h⟩ := h
  exact ⟨ring, a, A, c, h.put 69 _ rfl rfl (qL_settail h.ring.size 12 _)⟩
theorem CoreAt.set_stack {p : Nat} {s : Core} {w : World} (h : CoreAt p s w) (v : Int) : CoreAt p { s with stack := v } (w.setCell ⟨p, 71, none⟩ (.int .i64 v)) := by
  obtain ⟨ring, a, A, c, h⟩ := h
  exact ⟨ring, a, A, c, h.put 71 _ rfl rfl (qL_settail h.ring.size 14 _)⟩
theorem CoreAt.set_pushed {p : Nat} {s : Core} {w : World} (h : CoreAt p s w) (v : UInt8) : CoreAt p { s with en := { s.en with pushed := v } } (w.setCell ⟨p, 72, none⟩ (.int .u8 (v.toNat : Int))) := by
  obtain ⟨ring, a, A, c, h⟩ := h
  exact ⟨ring, a, A, c, h.put 72 _ rfl rfl (qL_settail h.ring.size 15 _)⟩
theorem CoreAt.set_then_ {p : Nat} {s : Core} {w : World} (h : CoreAt p s w) (v : UInt8) : CoreAt p { s with en := { s.en with then_ := v } } (w.setCell ⟨p, 73, none⟩ (.int .u8 (v.toNat : Int))) := by
  obtain ⟨ring, a, A, c, h⟩ := h
  exact ⟨ring, a, A, c, h.put 73 _ rfl rfl (qL_settail h.ring.size 16 _)⟩
theorem CoreAt.set_vector {p : Nat} {s : Core} {w : World} (h : CoreAt p s w) (v : UInt16) : CoreAt p { s with en := { s.en with vector := v } } (w.setCell ⟨p, 74, none⟩ (.int .u16 (v.toNat : Int))) := by
  obtain ⟨ring, a, A, c, h⟩ := h
  exact ⟨ring, a, A, c, h.put 74 _ rfl rfl (qL_settail h.ring.size 17 _)⟩
theorem CoreAt.set_whole {p : Nat} {s : Core} {w : World} (h : CoreAt p s w) (v : Bool) : CoreAt p { s with en := { s.en with whole := v } } (w.setCell ⟨p, 75, none⟩ (.bool v)) := by
  obtain ⟨ring, a, A, c, h⟩ := h
  exact ⟨ring, a, A, c, h.put 75 _ rfl rfl (qL_settail h.ring.size 18 _)⟩
theorem CoreAt.set_loads {p : Nat} {s : Core} {w : World} (h : CoreAt p s w) (v : Bool) : CoreAt p { s with loads := v } (w.setCell ⟨p, 76, none⟩ (.bool v)) := by
  obtain ⟨ring, a, A, c, h⟩ := h
  exact ⟨ring, a, A, c, h.put 76 _ rfl rfl (qL_settail h.ring.size 19 _)⟩
theorem CoreAt.c_a {p : Nat} {s : Core} {w : World} (h : CoreAt p s w) : w.cell? ⟨p, 0, none⟩ = some (.int .u8 (s.r.a.toNat : Int)) := by obtain ⟨ring, a, A, c, h⟩ := h; exact (h.blk.cell 0)
theorem CoreAt.c_b {p : Nat} {s : Core} {w : World} (h : CoreAt p s w) : w.cell? ⟨p, 1, none⟩ = some (.int .u8 (s.r.b.toNat : Int)) := by obtain ⟨ring, a, A, c, h⟩ := h; exact (h.blk.cell 1)
theorem CoreAt.c_dp {p : Nat} {s : Core} {w : World} (h : CoreAt p s w) : w.cell? ⟨p, 2, none⟩ = some (.int .u8 (s.r.dp.toNat : Int)) := by obtain ⟨ring, a, A, c, h⟩ := h; exact (h.blk.cell 2)
theorem CoreAt.c_cc {p : Nat} {s : Core} {w : World} (h : CoreAt p s w) : w.cell? ⟨p, 3, none⟩ = some (.int .u8 (s.r.cc.toNat : Int)) := by obtain ⟨ring, a, A, c, h⟩ := h; exact (h.blk.cell 3)
theorem CoreAt.c_x {p : Nat} {s : Core} {w : World} (h : CoreAt p s w) : w.cell? ⟨p, 4, none⟩ = some (.int .u16 (s.r.x.toNat : Int)) := by obtain ⟨ring, a, A, c, h⟩ := h; exact (h.blk.cell 4)
theorem CoreAt.c_y {p : Nat} {s : Core} {w : World} (h : CoreAt p s w) : w.cell? ⟨p, 5, none⟩ = some (.int .u16 (s.r.y.toNat : Int)) := by obtain ⟨ring, a, A, c, h⟩ := h; exact (h.blk.cell 5)
theorem CoreAt.c_u {p : Nat} {s : Core} {w : World} (h : CoreAt p s w) : w.cell? ⟨p, 6, none⟩ = some (.int .u16 (s.r.u.toNat : Int)) := by obtain ⟨ring, a, A, c, h⟩ := h; exact (h.blk.cell 6)
theorem CoreAt.c_s {p : Nat} {s : Core} {w : World} (h : CoreAt p s w) : w.cell? ⟨p, 7, none⟩ = some (.int .u16 (s.r.s.toNat : Int)) := by obtain ⟨ring, a, A, c, h⟩ := h; exact (h.blk.cell 7)
theorem CoreAt.c_pc {p : Nat} {s : Core} {w : World} (h : CoreAt p s w) : w.cell? ⟨p, 8, none⟩ = some (.int .u16 (s.r.pc.toNat : Int)) := by obtain ⟨ring, a, A, c, h⟩ := h; exact (h.blk.cell 8)
theorem CoreAt.c_kind {p : Nat} {s : Core} {w : World} (h : CoreAt p s w) : w.cell? ⟨p, 59, none⟩ = some (.int .i64 s.kind) := by obtain ⟨ring, a, A, c, h⟩ := h; exact ((h.blk.cell 59).trans (qL_tail h.ring.size 2))
theorem CoreAt.c_page {p : Nat} {s : Core} {w : World} (h : CoreAt p s w) : w.cell? ⟨p, 60, none⟩ = some (.int .i64 s.page) := by obtain ⟨ring, a, A, c, h⟩ := h; exact ((h.blk.cell 60).trans (qL_tail h.ring.size 3))
theorem CoreAt.c_op {p : Nat} {s : Core} {w : World} (h : CoreAt p s w) : w.cell? ⟨p, 61, none⟩ = some (.int .i64 s.e.op) := by obtain ⟨ring, a, A, c, h⟩ := h; exact ((h.blk.cell 61).trans (qL_tail h.ring.size 4))
theorem CoreAt.c_mode {p : Nat} {s : Core} {w : World} (h : CoreAt p s w) : w.cell? ⟨p, 62, none⟩ = some (.int .i64 s.e.mode) := by obtain ⟨ring, a, A, c, h⟩ := h; exact ((h.blk.cell 62).trans (qL_tail h.ring.size 5))
theorem CoreAt.c_reg {p : Nat} {s : Core} {w : World} (h : CoreAt p s w) : w.cell? ⟨p, 63, none⟩ = some (.int .i64 s.e.reg) := by obtain ⟨ring, a, A, c, h⟩ := h; exact ((h.blk.cell 63).trans (qL_tail h.ring.size 6))
theorem CoreAt.c_post {p : Nat} {s : Core} {w : World} (h : CoreAt p s w) : w.cell? ⟨p, 64, none⟩ = some (.int .u8 (s.post.toNat : Int)) := by obtain ⟨ring, a, A, c, h⟩ := h; exact ((h.blk.cell 64).trans (qL_tail h.ring.size 7))
theorem CoreAt.c_args {p : Nat} {s : Core} {w : World} (h : CoreAt p s w) : w.cell? ⟨p, 65, none⟩ = some (.int .i64 s.args) := by obtain ⟨ring, a, A, c, h⟩ := h; exact ((h.blk.cell 65).trans (qL_tail h.ring.size 8))
theorem CoreAt.c_value {p : Nat} {s : Core} {w : World} (h : CoreAt p s w) : w.cell? ⟨p, 66, none⟩ = some (.int .u16 (s.value.toNat : Int)) := by obtain ⟨ring, a, A, c, h⟩ := h; exact ((h.blk.cell 66).trans (qL_tail h.ring.size 9))
theorem CoreAt.c_ea {p : Nat} {s : Core} {w : World} (h : CoreAt p s w) : w.cell? ⟨p, 67, none⟩ = some (.int .u16 (s.ea.toNat : Int)) := by obtain ⟨ring, a, A, c, h⟩ := h; exact ((h.blk.cell 67).trans (qL_tail h.ring.size 10))
theorem CoreAt.c_word {p : Nat} {s : Core} {w : World} (h : CoreAt p s w) : w.cell? ⟨p, 68, none⟩ = some (.int .u16 (s.word.toNat : Int)) := by obtain ⟨ring, a, A, c, h⟩ := h; exact ((h.blk.cell 68).trans (qL_tail h.ring.size 11))
theorem CoreAt.c_ptr {p : Nat} {s : Core} {w : World} (h : CoreAt p s w) : w.cell? ⟨p, 69, none⟩ = some (.int .u16 (s.ptr.toNat : Int)) := by obtain ⟨ring, a, A, c, h⟩ := h; exact ((h.blk.cell 69).trans (qL_tail h.ring.size 12))
theorem CoreAt.c_stack {p : Nat} {s : Core} {w : World} (h : CoreAt p s w) : w.cell? ⟨p, 71, none⟩ = some (.int .i64 s.stack) := by obtain ⟨ring, a, A, c, h⟩ := h; exact ((h.blk.cell 71).trans (qL_tail h.ring.size 14))
theorem CoreAt.c_pushed {p : Nat} {s : Core} {w : World} (h : CoreAt p s w) : w.cell? ⟨p, 72, none⟩ = some (.int .u8 (s.en.pushed.toNat : Int)) := by obtain ⟨ring, a, A, c, h⟩ := h; exact ((h.blk.cell 72).trans (qL_tail h.ring.size 15))
theorem CoreAt.c_then_ {p : Nat} {s : Core} {w : World} (h : CoreAt p s w) : w.cell? ⟨p, 73, none⟩ = some (.int .u8 (s.en.then_.toNat : Int)) := by obtain ⟨ring, a, A, c, h⟩ := h; exact ((h.blk.cell 73).trans (qL_tail h.ring.size 16))
theorem CoreAt.c_vector {p : Nat} {s : Core} {w : World} (h : CoreAt p s w) : w.cell? ⟨p, 74, none⟩ = some (.int .u16 (s.en.vector.toNat : Int)) := by obtain ⟨ring, a, A, c, h⟩ := h; exact ((h.blk.cell 74).trans (qL_tail h.ring.size 17))
theorem CoreAt.c_whole {p : Nat} {s : Core} {w : World} (h : CoreAt p s w) : w.cell? ⟨p, 75, none⟩ = some (.bool s.en.whole) := by obtain ⟨ring, a, A, c, h⟩ := h; exact ((h.blk.cell 75).trans (qL_tail h.ring.size 18))
theorem CoreAt.c_loads {p : Nat} {s : Core} {w : World} (h : CoreAt p s w) : w.cell? ⟨p, 76, none⟩ = some (.bool s.loads) := by obtain ⟨ring, a, A, c, h⟩ := h; exact ((h.blk.cell 76).trans (qL_tail h.ring.size 19))
theorem CoreAt.set_list {p : Nat} {s : Core} {w : World} (h : CoreAt p s w) (A : Option Addr) (c : Nat) (l : List Part) (hl : ListOk w A l) (hc : l.length ≤ c) : CoreAt p { s with list := l } (w.setCell ⟨p, 70, none⟩ (.slice A l.length c)) := by
  obtain ⟨ring, a, A0, c0, h⟩ := h
  refine ⟨ring, a, A, c, ?_, h.ring, hl.far h.blk core_part 70 _, hc⟩
  have := h.blk.set_ 70 (.slice A l.length c)
  rwa [qL_settail h.ring.size 13] at this
theorem Get_core {p : Nat} {s : Core} (code : Int) (w : World) (h : CoreAt p s w) :
    Calls Tryz.prog 143 #[.pointer (some ⟨p, 0, none⟩), .int .i64 code] w fun e w' => e = .returned (.int .u16 ((s.r.get code).toNat : Int)) ∧ ∃ n, w' = w.drewN n := by
  obtain ⟨ring, a, A, c, h⟩ := h
  exact Get_any p _ s.r _ code w h.blk
theorem Set_core {p : Nat} {s : Core} (code : Int) (v : UInt16) (w : World) (h : CoreAt p s w) :
    Calls Tryz.prog 147 #[.pointer (some ⟨p, 0, none⟩), .int .i64 code, .int .u16 (v.toNat : Int)] w fun e w' => e = .returned (.bool (Regs.has code)) ∧ CoreAt p { s with r := s.r.set code v } w' ∧ w.grownBy w' (some p) := by
  obtain ⟨ring, a, A, c, h⟩ := h
  refine (Set_any p _ s.r _ code v w h.blk).mono ?_
  rintro e w' ⟨h1, h2, h3⟩
  exact ⟨h1, ⟨ring, a, A, c, h2, h.ring, h.list.grown h.blk core_part h3, h.cap⟩, h3⟩
theorem Len_core {p : Nat} {s : Core} (w : World) (h : CoreAt p s w) :
    Calls Tryz.prog 136 #[.pointer (some ⟨p, 9, none⟩)] w fun e w' => e = .returned (.int .i64 (s.q.length : Int)) ∧ w = w' := by
  obtain ⟨ring, a, A, c, h⟩ := h
  exact QLen_t h.blk h.ring.size
theorem Peek_core {p : Nat} {s : Core} (w : World) (h : CoreAt p s w) :
    Calls Tryz.prog 115 #[.pointer (some ⟨p, 9, none⟩)] w fun e w' => e = .returned (.tuple #[.agg #[.int .i64 (headS s.q).kind, .bool (headS s.q).busy], .bool (!s.q.isEmpty)]) ∧ Below w.heap.size w w' := by
  obtain ⟨ring, a, A, c, h⟩ := h
  exact Peek_t h.blk h.ring
theorem Pop_core_nil {p : Nat} {s : Core} (w : World) (h : CoreAt p s w) (hq : s.q = []) :
    Calls Tryz.prog 118 #[.pointer (some ⟨p, 9, none⟩)] w fun e w' => e = .returned (.tuple #[.agg #[.int .i64 0, .bool false], .bool false]) ∧ Below w.heap.size w w' := by
  obtain ⟨ring, a, A, c, h⟩ := h
  obtain ⟨h1, h2, h3, h4⟩ := h
  rw [hq] at h1 h2
  exact Pop_nil h1 h2
theorem Pop_core {p : Nat} {s : Core} {k : Int} {b : Bool} {q : List Step} (w : World) (h : CoreAt p s w) (hq : s.q = ⟨k, b⟩ :: q) :
    Calls Tryz.prog 118 #[.pointer (some ⟨p, 9, none⟩)] w fun e w' => e = .returned (.tuple #[.agg #[.int .i64 k, .bool b], .bool true]) ∧ CoreAt p { s with q := q } w' ∧ w.grownBy w' (some p) := by
  obtain ⟨ring, a, A, c, h⟩ := h
  obtain ⟨h1, h2, h3, h4⟩ := h
  rw [hq] at h1 h2
  refine (Pop_cons h1 h2).mono ?_
  rintro e w' ⟨g1, g2, g3⟩
  exact ⟨g1, ⟨_, _, A, c, g3, h2.pop, h3.grown h1 core_part g2, h4⟩, g2⟩
theorem Push_core {p : Nat} {s : Core} (xs : List Step) (A : Option Addr) (c : Nat) (w : World) (h : CoreAt p s w) (hx : Reads w w.heap.size 2 A xs.length (stepsV xs)) (hne : Apart p xs.length A) (hn : xs.length ≤ 1048576) :
    Calls Tryz.prog 112 #[.pointer (some ⟨p, 9, none⟩), .slice A xs.length c] w fun e w' => e = .returned (.bool (decide (s.q.length + xs.length ≤ 24))) ∧ CoreAt p (s.push xs) w' ∧ w.grownBy w' (some p) := by
  obtain ⟨ring, a, A0, c0, h⟩ := h
  refine (Push_t A xs.length c w.heap.size h.blk h.ring hx (Nat.le_refl _) hne rfl hn).mono ?_
  rintro e w' ⟨g1, g2, ring', a', g3, g4⟩
  exact ⟨g1, ⟨ring', a', A0, c0, g3, g4, h.list.grown h.blk core_part g2, h.cap⟩, g2⟩
theorem own_apart {w : World} {base p : Nat} {A : Option Addr} {n c : Nat} {e : TypeId} {size : Nat} {xs : List Value} (h : w.ownsRow base e size (.slice A n c) n xs) (hp : p < base) : Apart p n A := by
  intro hn ad hA
  rcases h.2 with ⟨_, h2⟩ | ⟨g, cap, cur, h1, h2, _⟩
  · omega
  · injection h1 with h1 _ _
    rw [h1] at hA
    injection hA with hA
    subst hA
    show g ≠ p
    omega
theorem grown_of_below {w w' : World} (hb : Below w.heap.size w w') (r : Option Nat) : w.grownBy w' r := ⟨hb.os, hb.tape, hb.output, hb.size, fun i hi _ => hb.block i hi⟩
end Go.Proofs.YtkdaphkpllgmbaaGreat

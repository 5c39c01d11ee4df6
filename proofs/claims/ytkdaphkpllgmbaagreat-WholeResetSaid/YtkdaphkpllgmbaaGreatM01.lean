/-
  Words for memory and for reading a law's arguments: slices that read as lists (any element size), values decoded out of the row's reading, and the row's last step. No function of the program.
  An append onto a row of the call's own, whatever its source (nil, empty or not); and what is known of such a row behind other steps.
  The laws' struct arguments: for each type its Lean structure, its cells, and the reading.
  Bytes as cells: a list of bytes, its cells; bytes that came in, as such a list; strings as lists.
  Contracts of the octet package's small functions.
  Memory in pages: what a block of ram.Ram holds; contracts of Rom, Read.
  Contract of ram.Poke.
  Contract of ram.Poke, whatever the page.
  Contracts of ram.Write and ram.Load.
  Contracts of flags.With, flags.Has, flags.NZ, flags.NZW.
  Contracts of the leaves that reckon with bytes and words: flags.NZ, logic, adder, taker, shift, count, wide, times.
  The program as plain functions: octets, flags, reckoning, opcodes, rows, the core's cycles. No function of the program's text is run here.
  The walk's whole numbers as bytes and words; contracts of the leaves over bytes and words.
-/
import Derived.Test.YtkdaphkpllgmbaaGreatProg
import Derived.Below
import Derived.Carry
import Derived.Laws.OwnMore
import Derived.Deep.AppendLies
import Derived.Deep.Draws
import Derived.Deep.Slices
import Derived.Deep.Fields
import Derived.ChangeSame
import Derived.ChangeArms
import Derived.ChangeOld
import Derived.OpenShut
import Derived.WideShapes
import Derived.SizedLaws
import Derived.Laws.BytesString
import Derived.Laws.Slices
import Derived.Laws.Cells
import Derived.Maps.AppendAt
import Derived.RegionTactic
import Derived.OwnWalk
import Derived.KernelRfl
import Derived.WalkKit
import Derived.WalkSpells
import Derived.Deep.QuietTactic
import Derived.BigQuiet
import Derived.Laws.BitsLemmas
import Derived.RowKit3
import Derived.Deep.RegionHeld3
import Derived.Lib.Hide
import Derived.Great.BuildSlice
namespace Go.Proofs.YtkdaphkpllgmbaaGreat
open Go.RowKit Go.WideShapes Go.ChangeShapes Go.Deep
set_option linter.unusedVariables false

theorem block_of_add (a : Addr) (n : Nat) : (a.add n).block = a.block := by unfold Addr.add; split <;> rfl
theorem add_pos (a : Addr) (n : Nat) (h : n ≠ 0) : a.add n = ⟨a.block, a.off + n, none⟩ := by unfold Addr.add; rw [if_neg h]
theorem add_of_add (a : Addr) (i j : Nat) : (a.add i).add j = a.add (i + j) := by
  unfold Addr.add
  by_cases hi : i = 0 <;> by_cases hj : j = 0 <;> simp [hi, hj, Nat.add_assoc]

/-- The slice value '.slice A n c' holds the cells xs (n elements of 'size' cells each), below block B. -/
def Reads (w : World) (B size : Nat) (A : Option Addr) (n : Nat) (xs : List Value) : Prop :=
  xs.length = n * size ∧ (0 < n → ∃ ad, A = some ad ∧ ad.block < B ∧ ∀ j u, xs[j]? = some u → w.cell? (ad.add j) = some u)

section
variable {w w' : World} {B B' size n : Nat} {A : Option Addr} {xs : List Value}
theorem Reads.none_ : Reads w B size A 0 [] := ⟨by simp, fun h => absurd h (by omega)⟩
theorem Reads.at_ {k : Nat} (h : Reads w B 1 A n xs) (hk : k < n) : ∃ ad u, A = some ad ∧ ad.block < B ∧ xs[k]? = some u ∧ w.cell? (ad.add k) = some u := by
  obtain ⟨ad, e, hb, hc⟩ := h.2 (by omega)
  have hl : k < xs.length := by have := h.1; omega
  exact ⟨ad, xs[k], e, hb, List.getElem?_eq_getElem hl, hc k _ (List.getElem?_eq_getElem hl)⟩
theorem Reads.keep (h : Reads w B size A n xs) (hk : ∀ p : Addr, p.block < B → w'.cell? p = w.cell? p) : Reads w' B size A n xs :=
  ⟨h.1, fun hn => by
    obtain ⟨ad, e, hb, hc⟩ := h.2 hn
    exact ⟨ad, e, hb, fun j u hu => (hk _ (by rw [block_of_add]; exact hb)).trans (hc j u hu)⟩⟩
theorem Reads.more (h : Reads w B size A n xs) (hB : B ≤ B') : Reads w B' size A n xs :=
  ⟨h.1, fun hn => by
    obtain ⟨ad, e, hb, hc⟩ := h.2 hn
    exact ⟨ad, e, by omega, hc⟩⟩
theorem Reads.below (h : Reads w B size A n xs) (hb : Below B w w') : Reads w' B size A n xs := h.keep fun _ hp => hb.cell hp
theorem Reads.cut (h : Reads w B size A n xs) {k cap : Nat} (hk : k ≤ n) (hc : n ≤ cap) :
    Reads w B size (if cap = k then A else A.map (·.add (k * size))) (n - k) (xs.drop (k * size)) := by
  refine ⟨by rw [List.length_drop, h.1, Nat.sub_mul], fun hn => ?_⟩
  obtain ⟨ad, rfl, hb, hcell⟩ := h.2 (by omega)
  rw [if_neg (by omega)]
  refine ⟨ad.add (k * size), rfl, by rw [block_of_add]; exact hb, fun j u hu => ?_⟩
  rw [add_of_add]
  exact hcell _ u (by rw [← hu, List.getElem?_drop])
theorem Reads.of_own {base : Nat} {e : TypeId} {c : Nat} (h : w.ownsRow base e size (.slice A n c) n xs) : Reads w w.heap.size size A n xs := by
  refine ⟨h.1, fun hn => ?_⟩
  obtain ⟨g, cap, hv, _, hlt⟩ := h.form hn
  have hA : A = some ⟨g, 0, none⟩ := by injection hv
  subst hA
  exact ⟨_, rfl, hlt, h.cells (g := g) rfl⟩
end

theorem below_alloc {w W : World} (h : Below w.heap.size w W) (o : Obj) : Below w.heap.size w (W.alloc o) := h.alloc h.size o
theorem below_drewN {B : Nat} {w W : World} (h : Below B w W) (n : Nat) : Below B w (W.drewN n) := ⟨h.os, h.tape, h.output, h.size, h.block⟩
theorem below_then {w w1 w2 : World} (h : Below w.heap.size w w1) (k : Below w1.heap.size w1 w2) : Below w.heap.size w w2 := h.trans (k.mono h.size)
theorem ret_int {k : IntKind} {a b : Int} (h : a = b) : Ending.returned (.int k a) = .returned (.int k b) := by rw [h]
theorem ret2_int {k : IntKind} {a b : Int} {v u : Value} (h : a = b) (h2 : v = u) : Ending.returned (.tuple #[.int k a, v]) = .returned (.tuple #[.int k b, u]) := by rw [h, h2]
theorem ret_bool {a b : Bool} (h : a = b) : Ending.returned (.bool a) = .returned (.bool b) := by rw [h]

/-- A new block of n one-cell elements. -/
theorem Reads.new1 (w : World) (t : TypeId) (cs : Array Value) (n B : Nat) (hn : cs.size = n) (hB : w.heap.size < B) : Reads (w.alloc (.cells cs t)) B 1 (some ⟨w.heap.size, 0, none⟩) n cs.toList := by
  refine ⟨by simp [hn], fun _ => ⟨_, rfl, hB, fun j u hu => ?_⟩⟩
  have e : (⟨w.heap.size, 0, none⟩ : Addr).add j = ⟨w.heap.size, j, none⟩ := by unfold Addr.add; split <;> simp_all
  rw [e, cell_of_row (w.alloc (.cells cs t)) w.heap.size j cs t (0, 0) (heap_alloc_new w _)]
  simpa using hu

/-! ### A block that is known whole -/
def Blk (w : World) (g : Nat) (t : TypeId) (cs : Array Value) : Prop := w.heap[g]? = some (.cells cs t (0, 0))
section
variable {w w' : World} {g : Nat} {t : TypeId} {cs : Array Value}
theorem Blk.lt (h : Blk w g t cs) : g < w.heap.size := by
  rcases Nat.lt_or_ge g w.heap.size with hlt | hge
  · exact hlt
  · unfold Blk at h; rw [Array.getElem?_eq_none hge] at h; cases h
theorem Blk.cell (h : Blk w g t cs) (i : Nat) : w.cell? ⟨g, i, none⟩ = cs[i]? := cell_of_row w g i cs t (0, 0) h
theorem Blk.frozen (h : Blk w g t cs) (i : Nat) : w.frozen? ⟨g, i, none⟩ = false := by
  unfold Blk at h
  simp [World.frozen?, h]
theorem Blk.new (w : World) (t : TypeId) (cs : Array Value) : Blk (w.alloc (.cells cs t)) w.heap.size t cs := heap_alloc_new w _
theorem Blk.drew (h : Blk w g t cs) : Blk w.drew g t cs := h
theorem Blk.drewN (h : Blk w g t cs) (n : Nat) : Blk (w.drewN n) g t cs := h
theorem Blk.alloc (h : Blk w g t cs) (o : Obj) : Blk (w.alloc o) g t cs := (Below.heap_alloc w o g h.lt).trans h
theorem Blk.set_ (h : Blk w g t cs) (i : Nat) (u : Value) : Blk (w.setCell ⟨g, i, none⟩ u) g t (cs.setIfInBounds i u) := by
  unfold Blk at h ⊢
  simp [World.setCell, Array.getElem?_modify, h]
theorem Blk.far (h : Blk w g t cs) {p : Addr} (hp : g ≠ p.block) (u : Value) : Blk (w.setCell p u) g t cs := (Below.heap_setCell w p u g hp).trans h
theorem Blk.below {B : Nat} (h : Blk w g t cs) (hb : Below B w w') (hg : g < B) : Blk w' g t cs := (hb.block g hg).trans h
theorem Blk.grown {row : Option Nat} (h : Blk w g t cs) (hb : w.grownBy w' row) (hg : some g ≠ row) : Blk w' g t cs := (hb.block g h.lt hg).trans h
theorem Blk.ne_ {g' : Nat} {t' : TypeId} {cs' : Array Value} (h : Blk w g t cs) (h' : Blk w g' t' cs') (hne : t ≠ t') : g ≠ g' := by
  rintro rfl
  unfold Blk at h h'
  rw [h] at h'
  injection h' with h'
  injection h' with _ ht
  exact hne ht
theorem bcell {W w1 : World} (hb : Below W.heap.size W w1) : (∀ b o, b < W.heap.size → w1.cell? ⟨b, o, none⟩ = W.cell? ⟨b, o, none⟩) ∧ (∀ b o, b < W.heap.size → w1.frozen? ⟨b, o, none⟩ = W.frozen? ⟨b, o, none⟩) :=
  ⟨fun b o h => hb.cell (p := ⟨b, o, none⟩) h, fun b o h => hb.frozen (p := ⟨b, o, none⟩) h⟩
theorem Blk.c2 {a b : Value} (h : Blk w g t #[a, b]) : w.cell? ⟨g, 0, none⟩ = some a ∧ w.cell? ⟨g, 1, none⟩ = some b := ⟨h.cell 0, h.cell 1⟩
theorem Blk.c3 {a b c : Value} (h : Blk w g t #[a, b, c]) : w.cell? ⟨g, 0, none⟩ = some a ∧ w.cell? ⟨g, 1, none⟩ = some b ∧ w.cell? ⟨g, 2, none⟩ = some c := ⟨h.cell 0, h.cell 1, h.cell 2⟩
end

/-! ### Lists of elements of several cells -/
section
variable {α : Type} {en : α → List Value} {size : Nat}
theorem flat_length (hs : ∀ y, (en y).length = size) (ys : List α) : (ys.flatMap en).length = ys.length * size := by
  induction ys with
  | nil => simp
  | cons y ys ih => simp only [List.flatMap_cons, List.length_append, hs, ih, List.length_cons, Nat.succ_mul]; omega
theorem flat_get (hs : ∀ y, (en y).length = size) (ys : List α) (i j : Nat) (y : α) (hy : ys[i]? = some y) (hj : j < size) : (ys.flatMap en)[i * size + j]? = (en y)[j]? := by
  induction ys generalizing i with
  | nil => simp at hy
  | cons z ys ih =>
    simp only [List.flatMap_cons]
    cases i with
    | zero =>
      simp at hy
      subst hy
      rw [Nat.zero_mul, Nat.zero_add, List.getElem?_append_left (by rw [hs]; exact hj)]
    | succ i =>
      simp at hy
      rw [List.getElem?_append_right (by rw [hs, Nat.succ_mul]; omega), hs]
      have e : (i + 1) * size + j - size = i * size + j := by rw [Nat.succ_mul]; omega
      rw [e]
      exact ih i hy
theorem flat_one {f : α → Value} (ys : List α) : ys.flatMap (fun y => [f y]) = ys.map f := by
  induction ys with
  | nil => rfl
  | cons y ys ih => simp [ih]
/-- Element k's own cells. -/
theorem Reads.elem {w : World} {B n : Nat} {A : Option Addr} {ys : List α} (hs : ∀ y, (en y).length = size) (h0 : 0 < size) (h : Reads w B size A n (ys.flatMap en)) {k : Nat} (hk : k < n) :
    ∃ ad y, A = some ad ∧ ad.block < B ∧ ys[k]? = some y ∧ ∀ j u, (en y)[j]? = some u → w.cell? (ad.add (k * size + j)) = some u := by
  obtain ⟨ad, e, hb, hc⟩ := h.2 (by omega)
  have hl : ys.length = n := by
    have := h.1
    rw [flat_length hs] at this
    exact Nat.eq_of_mul_eq_mul_right h0 this
  refine ⟨ad, ys[k]'(by omega), e, hb, List.getElem?_eq_getElem (by omega), fun j u hu => hc _ u ?_⟩
  have hj : j < size := by
    rw [← hs (ys[k]'(by omega))]
    exact (List.getElem?_eq_some_iff.1 hu).1
  rw [flat_get hs ys k j _ (List.getElem?_eq_getElem (by omega)) hj, hu]
theorem Reads.len {w : World} {B n : Nat} {A : Option Addr} {ys : List α} (hs : ∀ y, (en y).length = size) (h0 : 0 < size) (h : Reads w B size A n (ys.flatMap en)) : ys.length = n := by
  have := h.1
  rw [flat_length hs] at this
  exact Nat.eq_of_mul_eq_mul_right h0 this
end

/-! ### Arrays cut, bytes as a string -/
section
variable {P : Program}
theorem addr_add0 (g j : Nat) : (⟨g, 0, none⟩ : Addr).add j = ⟨g, j, none⟩ := by unfold Addr.add; split <;> simp_all
theorem addr_addn (g j i : Nat) : (⟨g, j, none⟩ : Addr).add i = ⟨g, j + i, none⟩ := by unfold Addr.add; split <;> simp_all
/-- 'arr[j:]' of an array of one-cell elements that lies in block g. -/
theorem slice_arr_from {t : TypeId} {n : Nat} (hu : P.underlying t = some (.array (P.arrayLen t) (P.elem t))) (hl : P.arrayLen t = n) (hs : ∀ w, (sizeOf (P.elem t)).run P w = .ok 1 w) (w : World) (g j : Nat) (hj : j < n) :
    (Instr.sliceAt t (.pointer (some ⟨g, 0, none⟩)) (some (.int .i64 (j : Int))) none none).run P w = .ok (.slice (some ⟨g, j, none⟩) (n - j) (n - j)) w := by
  rw [run_sliceAt_array_l w t ⟨g, 0, none⟩ hu .i64 (j : Int) (by omega) (by omega), hs, hl]
  simp only [Result.andThen, slicedAt, Int.toNat_natCast]
  rw [if_neg (by omega), Nat.mul_one, addr_add0]
theorem push_all (l : List UInt8) (s : List UInt8) : (l.map fun c : UInt8 => (c.toNat : Int)).foldl (fun (r : ByteArray) n => r.push (UInt8.ofNat n.toNat)) ⟨s.toArray⟩ = ⟨(s ++ l).toArray⟩ := by
  induction l generalizing s with
  | nil => simp
  | cons c l ih =>
    have e : (ByteArray.mk s.toArray).push (UInt8.ofNat c.toNat) = ⟨(s ++ [c]).toArray⟩ := by simp [ByteArray.push]
    simp only [List.map_cons, List.foldl_cons, Int.toNat_natCast, e, ih (s ++ [c]), List.append_assoc, List.singleton_append]
theorem conv_bytes_str {src dst e : TypeId} (hs : P.underlying src = some (.slice e)) (he : P.underlying e = some (.int .u8)) (hd : P.underlying dst = some .string) {w : World} {B : Nat} {A : Option Addr} {n : Nat} (c : Nat) {l : List UInt8}
    (hr : Reads w B 1 A n (l.map fun c : UInt8 => .int .u8 (c.toNat : Int))) : (convert src dst (.slice A n c)).run P w = .ok (.string ⟨l.toArray⟩) w := by
  rw [run_convert_bytes_string w src dst e A n c hs he hd]
  have hln : l.length = n := by simpa using hr.1
  cases A with
  | none =>
    have h0 : n = 0 := by
      rcases Nat.eq_zero_or_pos n with h | h
      · exact h
      · obtain ⟨ad, h, _⟩ := hr.2 h; cases h
    subst h0
    have : l = [] := List.eq_nil_of_length_eq_zero hln
    subst this
    rfl
  | some ad =>
    have hcells : ∀ j v, ((l.map fun c : UInt8 => (c.toNat : Int)).map (Value.int .u8))[j]? = some v → w.cell? (ad.add j) = some v := fun j v hv => by
      have hlt : 0 < n := by
        have := (List.getElem?_eq_some_iff.1 hv).1
        simp at this; omega
      obtain ⟨ad', e1, _, hc⟩ := hr.2 hlt
      obtain rfl := Option.some.inj e1
      exact hc j v (by rw [List.map_map] at hv; exact hv)
    have hl := run_loadCells_list (P := P) (w := w) ad _ hcells
    have hlen : ((l.map fun c : UInt8 => (c.toNat : Int)).map (Value.int .u8)).length = n := by simp [hln]
    rw [hlen] at hl
    rw [run_bytesToString w ad n c _ hl]
    exact congrArg (fun s => Result.ok (Value.string s) w) ((push_all l []).trans (by simp))
end

/-! ### What the arguments read as -/
/-- Values of type t are the cells 'en y' of some y that is good. -/
def Dec (P : Program) (W : World) (t : TypeId) (α : Type) (en : α → List Value) (good : α → Prop) : Prop :=
  ∀ (H : Type) (enc : TypeId × Value → H) (fuel : Nat) (cs : List Value) (x : DataW H × List MemPlace), DataW.trod enc P W 0 (fun _ => true) true fuel t cs = some x → ∃ y, cs = en y ∧ good y
section
variable {P : Program} {W : World} {t e : TypeId}
theorem dec_bool (ht : P.underlying t = some .bool) : Dec P W t Bool (fun b => [.bool b]) (fun _ => True) := fun H enc fuel cs x h => by
  obtain ⟨b, rfl, _⟩ := DataW.trod_bool ht h
  exact ⟨b, rfl, trivial⟩
theorem dec_int {k : IntKind} (ht : P.underlying t = some (.int k)) : Dec P W t Int (fun n => [.int k n]) (fun n => k.min ≤ n ∧ n ≤ k.max) := fun H enc fuel cs x h => by
  obtain ⟨n, rfl, _, hw⟩ := DataW.trod_int ht h
  exact ⟨n, rfl, by simpa [Lit.wf] using hw⟩
theorem dec_string (ht : P.underlying t = some .string) : Dec P W t ByteArray (fun s => [.string s]) (fun s => s.size ≤ maxLen) := fun H enc fuel cs x h => by
  obtain ⟨s, rfl, _, hw⟩ := DataW.trod_string ht h
  exact ⟨s, rfl, hw⟩
/-- A slice that came in: its value's three parts and its elements. -/
structure Sl (α : Type) where
  a : Option Addr
  n : Nat
  c : Nat
  ys : List α
def Sl.v {α : Type} (s : Sl α) : Value := .slice s.a s.n s.c
structure Sl.Good {α : Type} (s : Sl α) (W : World) (size : Nat) (en : α → List Value) (good : α → Prop) : Prop where
  nc : s.n ≤ s.c
  cm : s.c ≤ maxLen
  reads : Reads W W.heap.size size s.a s.n (s.ys.flatMap en)
  len : s.ys.length = s.n
  all : ∀ y ∈ s.ys, good y
theorem dec_slice {α : Type} {en : α → List Value} {good : α → Prop} {size : Nat} (ht : P.underlying t = some (.slice e)) (hc : P.cellsOf e = size) (hs0 : 0 < size) (hs : ∀ y, (en y).length = size) (he : Dec P W e α en good) :
    Dec P W t (Sl α) (fun s => [s.v]) (fun s => s.Good W size en good) := fun H enc fuel cs x h => by
  rcases open_slice ht h with ⟨rfl, _⟩ | ⟨a, len, cap, m, n, D, Pl, rfl, _, hl, hm, hmm, hx, hi⟩
  · exact ⟨⟨none, 0, 0, []⟩, rfl, ⟨by simp, by simp [maxLen], Reads.none_, rfl, by simp⟩⟩
  · have hmc : m = cap := by simpa using hmm
    subst hmc
    have hall : ∀ i, i < len → ∃ y, W.cells? 0 (a.add (i * P.cellsOf e)) (P.cellsOf e) = some (en y) ∧ good y := fun i hil => by
      obtain ⟨cs', h1, h2⟩ := hi i (by omega)
      obtain ⟨y, rfl, hy⟩ := he H enc _ _ _ h2
      exact ⟨y, h1, hy⟩
    obtain ⟨ys, hys, hyl⟩ : ∃ ys : List α, ys.length = len ∧ ∀ i y, ys[i]? = some y → W.cells? 0 (a.add (i * P.cellsOf e)) (P.cellsOf e) = some (en y) ∧ good y := by
      clear hx hi hl hm hmm h
      induction len with
      | zero => exact ⟨[], rfl, fun i y h => by simp at h⟩
      | succ len ih =>
        obtain ⟨ys, h1, h2⟩ := ih (fun i hi => hall i (by omega))
        obtain ⟨y, h3⟩ := hall len (by omega)
        refine ⟨ys ++ [y], by simp [h1], fun i z hz => ?_⟩
        rcases Nat.lt_or_ge i ys.length with hlt | hge
        · rw [List.getElem?_append_left hlt] at hz
          exact h2 i z hz
        · rw [List.getElem?_append_right hge] at hz
          have hi0 : i - ys.length = 0 := by
            rcases Nat.eq_zero_or_pos (i - ys.length) with h0 | h0
            · exact h0
            · rw [List.getElem?_eq_none (by simp only [List.length_singleton]; omega)] at hz; cases hz
          rw [hi0] at hz
          simp at hz
          subst hz
          obtain rfl : i = len := by omega
          exact h3
    have hlt : 0 < len → a.block < W.heap.size := fun h0 => by
      obtain ⟨y, h1, _⟩ := hall 0 h0
      obtain ⟨_, hlen, hcell⟩ := World.cells?_some h1
      have h2 := hcell 0 (by omega)
      have hz : (en y)[0]? = some ((en y)[0]'(by rw [hs]; exact hs0)) := List.getElem?_eq_getElem _
      rw [hz] at h2
      have h3 := World.block_lt_of_cell? W _ h2
      rwa [block_of_add, block_of_add] at h3
    refine ⟨⟨some a, len, m, ys⟩, rfl, ⟨hl, hm, ⟨by rw [flat_length hs, hys], fun h0 => ⟨a, rfl, hlt h0, fun j u hu => ?_⟩⟩, hys, fun y hy => ?_⟩⟩
    · have hjl : j < ys.length * size := by
        rw [← flat_length hs ys]
        exact (List.getElem?_eq_some_iff.1 hu).1
      have hd : j / size < ys.length := by rwa [Nat.div_lt_iff_lt_mul hs0]
      have hmo : j % size < size := Nat.mod_lt _ hs0
      have hj : j = j / size * size + j % size := by rw [Nat.mul_comm]; exact (Nat.div_add_mod j size).symm
      have h1 := (hyl (j / size) _ (List.getElem?_eq_getElem hd)).1
      obtain ⟨_, hlen, hcell⟩ := World.cells?_some h1
      have h2 := hcell (j % size) (by omega)
      rw [add_of_add, hc, ← hj] at h2
      rw [h2]
      rw [hj, flat_get hs ys _ _ _ (List.getElem?_eq_getElem hd) hmo] at hu
      exact hu
    · obtain ⟨i, hi1, rfl⟩ := List.mem_iff_getElem.1 hy
      exact (hyl i _ (List.getElem?_eq_getElem hi1)).2
/-- A struct of one-cell fields: each cell reads as its field. -/
theorem dec_struct {fs : Array Field} {H : Type} {enc : TypeId × Value → H} {fuel : Nat} {cs : List Value} {x : DataW H × List MemPlace} (ht : P.underlying t = some (.struct fs)) (hone : oneCellFields P fs = true) (hC : P.cellsOf t = fs.size)
    (h : DataW.trod enc P W 0 (fun _ => true) true fuel t cs = some x) :
    cs.length = fs.size ∧ ∀ (j : Nat) (f : Field) (c : Value), fs[j]? = some f → cs[j]? = some c → ∃ n y, DataW.trod enc P W 0 (fun _ => true) true n f.type [c] = some y := by
  obtain ⟨ys, n', hn', hy, hlen, hyl, hf⟩ := DataW.trod_struct ht h
  refine ⟨by rw [hlen, hC], fun j f c hj hc => ?_⟩
  obtain ⟨ho, hk⟩ := hone_of hone j f hj
  have hjl : j < fs.size := (Array.getElem?_eq_some_iff.1 hj).1
  have h1 := hf j f hj
  rw [ho, hk] at h1
  obtain ⟨hjc, hce⟩ := List.getElem?_eq_some_iff.1 hc
  have hone' : (cs.drop j).take 1 = [c] := by
    rw [List.drop_eq_getElem_cons hjc, hce]
    rfl
  rw [hone'] at h1
  have hys : ys[j]? = some (ys[j]'(by omega)) := List.getElem?_eq_getElem (by omega)
  exact ⟨n', _, h1.trans hys⟩
end

/-! ### An argument opened -/
section
variable {H : Type} {enc : TypeId × Value → H} {P : Program} {W : World} {base : Nat} {t : TypeId} {v : Value} {d : DataW H} {ps : List MemPlace}
theorem open1_int {k : IntKind} (ht : P.underlying t = some (.int k)) (hv : Value.okWide P W .any base t v) (h : DataW.Trod enc P W 0 (fun _ => true) true t v d ps) : ∃ n, v = .int k n ∧ k.min ≤ n ∧ n ≤ k.max := by
  obtain ⟨n, rfl⟩ := okWide_int ht hv
  obtain ⟨fuel, hf⟩ := h
  obtain ⟨y, hy, hg⟩ := dec_int ht H enc _ _ _ hf
  simp [Value.cells] at hy
  subst hy
  exact ⟨n, rfl, hg⟩
theorem open1_bool (ht : P.underlying t = some .bool) (hv : Value.okWide P W .any base t v) : ∃ b, v = .bool b := okWide_bool ht hv
theorem open1_string (ht : P.underlying t = some .string) (hv : Value.okWide P W .any base t v) (h : DataW.Trod enc P W 0 (fun _ => true) true t v d ps) : ∃ s : ByteArray, v = .string s ∧ s.size ≤ maxLen := by
  obtain ⟨n, rfl⟩ := okWide_string ht hv
  obtain ⟨fuel, hf⟩ := h
  obtain ⟨y, hy, hg⟩ := dec_string ht H enc _ _ _ hf
  simp [Value.cells] at hy
  subst hy
  exact ⟨n, rfl, hg⟩
theorem open1_slice {e : TypeId} {α : Type} {en : α → List Value} {good : α → Prop} {size : Nat} (ht : P.underlying t = some (.slice e)) (hc : P.cellsOf e = size) (hs0 : 0 < size) (hs : ∀ y, (en y).length = size) (he : Dec P W e α en good)
    (hv : Value.okWide P W .any base t v) (h : DataW.Trod enc P W 0 (fun _ => true) true t v d ps) : ∃ s : Sl α, v = s.v ∧ s.Good W size en good := by
  obtain ⟨a, l, c, rfl⟩ := okWide_slice ht hv
  obtain ⟨fuel, hf⟩ := h
  obtain ⟨y, hy, hg⟩ := dec_slice ht hc hs0 hs he H enc _ _ _ hf
  simp [Value.cells] at hy
  exact ⟨y, hy, hg⟩
theorem open1_struct {fs : Array Field} {α : Type} {en : α → List Value} {good : α → Prop} (ht : P.underlying t = some (.struct fs)) (he : Dec P W t α en good)
    (hv : Value.okWide P W .any base t v) (h : DataW.Trod enc P W 0 (fun _ => true) true t v d ps) : ∃ y : α, v = .agg (en y).toArray ∧ good y := by
  obtain ⟨cs, rfl, _⟩ := okWide_struct ht hv
  obtain ⟨fuel, hf⟩ := h
  obtain ⟨y, hy, hg⟩ := he H enc _ _ _ hf
  refine ⟨y, ?_, hg⟩
  rw [← hy]
  simp [Value.cells]
end

/-! ### The row's last step -/
section
variable {H : Type} {enc : TypeId × Value → H} {P : Program}
/-- Every argument reads as it did, where below the heap's old size nothing has turned. -/
theorem all_below (hl : laidOutB P = true) {W W' : World} (hb : Below W.heap.size W W') :
    ∀ {ts : List TypeId} {vs : List Value} {ds : List (DataW H)} {ps : List MemPlace}, (ts.all fun t => P.readableRec t && decide (t < P.types.size)) = true → DataW.TrodAll enc P W 0 (fun _ => true) true ts vs ds ps →
      DataW.TrodAll enc P W' 0 (fun b => decide (b < W.heap.size)) true ts vs ds ps
  | [], [], [], ps, _, h => h
  | [], [], _ :: _, _, _, h => h.elim
  | [], _ :: _, _, _, _, h => h.elim
  | _ :: _, [], _, _, _, h => h.elim
  | _ :: _, _ :: _, [], _, _, h => h.elim
  | t :: ts, v :: vs, d :: ds, ps, hv, h => by
    obtain ⟨p, q, h1, h2, e⟩ := h
    simp only [List.all_cons, Bool.and_eq_true, decide_eq_true_eq] at hv
    refine ⟨p, q, Below.trod hl hv.1.1 hv.1.2 h1 hb (fun x hx => ?_), all_below hl hb hv.2 h2, e⟩
    obtain ⟨m, hm⟩ := h1
    exact DataW.trod_lt m _ _ _ hm x hx
end
end Go.Proofs.YtkdaphkpllgmbaaGreat
namespace Go.Proofs.YtkdaphkpllgmbaaGreat
open Go.RowKit
section
variable {P : Program} (w : World)

theorem run_append_of_nil (base : Nat) (t ty e : TypeId) (i : TypeInfo) (size : Nat) (ht : P.underlying t = some (.slice e)) (hi : P.info? e = some i)
    (v : Value) (n : Nat) (xs : List Value) (hown : w.ownsRow base e size v n xs) (c : Nat) : (Builtin.append_ #[t, t] ty #[v, .slice none 0 c]).run P w = .ok v w := by
  rcases hown.2 with ⟨rfl, rfl⟩ | ⟨g, cap, cur, rfl, _, _, hnc, _⟩
  · simp [Builtin.append_, run_underlying ht, sizeOf, typeInfo, hi, Builtin.lenOf, Builtin.firstCells]
  · simp [Builtin.append_, run_underlying ht, sizeOf, typeInfo, hi, Builtin.lenOf, Builtin.firstCells, hnc, storeCells]

theorem run_append_any (base : Nat) (t ty e : TypeId) (i : TypeInfo) (z : Value) (size bytes : Nat) (ht : P.underlying t = some (.slice e)) (hi : P.info? e = some i) (hz : i.zero = some z)
    (hsize : i.size = size) (hby : i.bytes = bytes) (hzs : z.cells.size = size) (hsz : 0 < size)
    (v : Value) (n : Nat) (xs : List Value) (hown : w.ownsRow base e size v n xs)
    (B : Nat) (A : Option Addr) (m c : Nat) (news : List Value) (hr : Reads w B size A m news) (h1 : ∀ u ∈ news, u.oneCell' = true)
    (h63 : n + m ≤ maxLen) (hbytes : (n + m) * bytes ≤ 140737488355328) (hbase : base ≤ w.heap.size) :
    ∃ v' w', (Builtin.append_ #[t, t] ty #[v, .slice A m c]).run P w = .ok v' w' ∧ w'.ownsRow base e size v' (n + m) (xs ++ news) ∧ w.grownBy w' v.ownBlock ∧
      (v'.ownBlock = v.ownBlock ∨ v'.ownBlock = some w.heap.size) := by
  rcases A with _ | ad
  · have hm : m = 0 := by
      rcases Nat.eq_zero_or_pos m with h0 | h0
      · exact h0
      · obtain ⟨ad, h, _⟩ := hr.2 h0
        cases h
    subst hm
    have hn : news = [] := List.eq_nil_of_length_eq_zero (by simpa using hr.1)
    subst hn
    exact ⟨v, w, run_append_of_nil w base t ty e i size ht hi v n xs hown c, by simpa using hown, World.grownBy.refl w _, .inl rfl⟩
  · have hcells : ∀ j u, news[j]? = some u → w.cell? (ad.add j) = some u := by
      intro j u hu
      rcases Nat.eq_zero_or_pos m with h0 | h0
      · subst h0
        have hn : news = [] := List.eq_nil_of_length_eq_zero (by simpa using hr.1)
        subst hn
        simp at hu
      · obtain ⟨ad', h, _, hc⟩ := hr.2 h0
        injection h with h
        subst h
        exact hc j u hu
    obtain ⟨v', w', hrun, h2, h3, _, h5⟩ := run_append_own_at (P := P) w base t ty e i z size bytes ht hi hz hsize hby hzs hsz v n xs hown ad m c news hr.1 hcells h1 h63 hbytes hbase
    exact ⟨v', w', hrun, h2, h3, h5⟩

theorem wp_append_any {o : Oper} {a : Act} {K : Act → World → Prop} {Q : Exit → Act → World → Prop} (s x : Operand) (t : TypeId)
    (ho : o.op = .call { callee := .builtin .append, args := #[s, x], argTypes := #[t, t] })
    (base : Nat) (e : TypeId) (i : TypeInfo) (z : Value) (size bytes : Nat) (ht : P.underlying t = some (.slice e)) (hi : P.info? e = some i) (hz : i.zero = some z)
    (hsize : i.size = size) (hby : i.bytes = bytes) (hzs : z.cells.size = size) (hsz : 0 < size)
    (v : Value) (n : Nat) (xs : List Value) (hs : a.eval s = v) (hown : w.ownsRow base e size v n xs)
    (B : Nat) (A : Option Addr) (m c : Nat) (news : List Value) (hx : a.eval x = .slice A m c) (hr : Reads w B size A m news) (h1 : ∀ u ∈ news, u.oneCell' = true)
    (h63 : n + m ≤ maxLen) (hbytes : (n + m) * bytes ≤ 140737488355328) (hbase : base ≤ w.heap.size)
    (h : ∀ v' w', w'.ownsRow base e size v' (n + m) (xs ++ news) → w.grownBy w' v.ownBlock → (v'.ownBlock = v.ownBlock ∨ v'.ownBlock = some w.heap.size) → K (a.put o.dst v') w') : o.wp P a w K Q := by
  obtain ⟨v', w', hrun, h2, h3, h4⟩ := run_append_any (P := P) w base t o.type e i z size bytes ht hi hz hsize hby hzs hsz v n xs hown B A m c news hr h1 h63 hbytes hbase
  unfold Oper.wp execOp
  simp only [ho, resolve, invoke, builtin, Sem.run_bind, Sem.run_pure, Result.andThen_ok, List.map_toArray, List.map_cons, List.map_nil, hs, hx, hrun]
  exact h v' w' h2 h3 h4

theorem wpList_append_any {ops : Array Oper} {rest : List Oper} {o : Oper} {a : Act} {Q : Exit → Act → World → Prop} (hgd : o.guard = none) (s x : Operand) (t : TypeId)
    (ho : o.op = .call { callee := .builtin .append, args := #[s, x], argTypes := #[t, t] })
    (base : Nat) (e : TypeId) (i : TypeInfo) (z : Value) (size bytes : Nat) (ht : P.underlying t = some (.slice e)) (hi : P.info? e = some i) (hz : i.zero = some z)
    (hsize : i.size = size) (hby : i.bytes = bytes) (hzs : z.cells.size = size) (hsz : 0 < size)
    (v : Value) (n : Nat) (xs : List Value) (hs : a.eval s = v) (hown : w.ownsRow base e size v n xs)
    (B : Nat) (A : Option Addr) (m c : Nat) (news : List Value) (hx : a.eval x = .slice A m c) (hr : Reads w B size A m news) (h1 : ∀ u ∈ news, u.oneCell' = true)
    (h63 : n + m ≤ maxLen) (hbytes : (n + m) * bytes ≤ 140737488355328) (hbase : base ≤ w.heap.size)
    (h : ∀ v' w', w'.ownsRow base e size v' (n + m) (xs ++ news) → w.grownBy w' v.ownBlock → (v'.ownBlock = v.ownBlock ∨ v'.ownBlock = some w.heap.size) → wpList P ops Q rest (a.put o.dst v') w') : wpList P ops Q (o :: rest) a w :=
  wpList_plain hgd fun _ hK => wp_append_any w s x t ho base e i z size bytes ht hi hz hsize hby hzs hsz v n xs hs hown B A m c news hx hr h1 h63 hbytes hbase fun v' w' h2 h3 h4 => hK _ _ (h v' w' h2 h3 h4)

theorem step_append_any {ops : Array Oper} {o : Oper} {a : Act} {K : Act → World → Prop} {Q : Exit → Act → World → Prop} {E : Prop} (hgd : o.guard = none) (s x : Operand) (t : TypeId)
    (ho : o.op = .call { callee := .builtin .append, args := #[s, x], argTypes := #[t, t] })
    (base : Nat) (e : TypeId) (i : TypeInfo) (z : Value) (size bytes : Nat) (ht : P.underlying t = some (.slice e)) (hi : P.info? e = some i) (hz : i.zero = some z)
    (hsize : i.size = size) (hby : i.bytes = bytes) (hzs : z.cells.size = size) (hsz : 0 < size)
    (v : Value) (n : Nat) (xs : List Value) (hs : a.eval s = v) (hown : w.ownsRow base e size v n xs)
    (B : Nat) (A : Option Addr) (m c : Nat) (news : List Value) (hx : a.eval x = .slice A m c) (hr : Reads w B size A m news) (h1 : ∀ u ∈ news, u.oneCell' = true)
    (h63 : n + m ≤ maxLen) (hbytes : (n + m) * bytes ≤ 140737488355328) (hbase : base ≤ w.heap.size)
    (h : ∀ v' w', w'.ownsRow base e size v' (n + m) (xs ++ news) → w.grownBy w' v.ownBlock → (v'.ownBlock = v.ownBlock ∨ v'.ownBlock = some w.heap.size) → K (a.put o.dst v') w') :
    if Region.wanted o (yielded ops a.tmps) = true then Oper.wp P o a w K Q else E := by
  have hw : Region.wanted o (yielded ops a.tmps) = true := by simp [Region.wanted, hgd]
  rw [if_pos hw]
  exact wp_append_any w s x t ho base e i z size bytes ht hi hz hsize hby hzs hsz v n xs hs hown B A m c news hx hr h1 h63 hbytes hbase h
end

/-- A row lives on where below its block nothing has turned. -/
theorem own_below {w w1 : World} {base : Nat} {e : TypeId} {size n : Nat} {v : Value} {xs : List Value} (h : w.ownsRow base e size v n xs) (hb : Below w.heap.size w w1) : w1.ownsRow base e size v n xs :=
  h.kept (row := none) ⟨hb.os, hb.tape, hb.output, hb.size, fun i hi _ => hb.block i hi⟩ (by cases v.ownBlock <;> simp)
theorem own_reads {w : World} {base : Nat} {e : TypeId} {size n : Nat} {v : Value} {xs : List Value} (h : w.ownsRow base e size v n xs) : ∃ A c, v = .slice A n c ∧ Reads w w.heap.size size A n xs ∧ n ≤ c ∧ c ≤ maxLen := by
  rcases h.2 with ⟨rfl, rfl⟩ | ⟨g, cap, cur, rfl, hb, hg, hn, hm, _⟩
  · have : xs = [] := List.eq_nil_of_length_eq_zero (by simpa using h.1)
    subst this
    exact ⟨none, 0, rfl, Reads.none_, Nat.le_refl _, by simp [maxLen]⟩
  · exact ⟨some ⟨g, 0, none⟩, cap, rfl, Reads.of_own h, hn, hm⟩
theorem own_nil (w : World) (base : Nat) (e : TypeId) (size : Nat) : w.ownsRow base e size (.slice none 0 0) 0 [] := ⟨by simp, .inl ⟨rfl, rfl⟩⟩
theorem below_alloc' {a w : World} (hb : Below a.heap.size a w) {o : Obj} : Below a.heap.size a (w.alloc o) := hb.alloc hb.size o
theorem own_cell {w w1 : World} {base : Nat} {e : TypeId} {size n : Nat} {v : Value} {xs : List Value} (h : w.ownsRow base e size v n xs) (hg : w.grownBy w1 v.ownBlock) (hB : base ≤ w.heap.size) {p : Addr} (hp : p.block < base) : w1.cell? p = w.cell? p :=
  World.cell?_of_block (hg.block p.block (by omega) (fun e => by have := (h.lt p.block e.symm).1; omega))
/-- Behind an append: below the base nothing has turned. -/
theorem below_own {a w w1 : World} {base : Nat} {e : TypeId} {size n : Nat} {v : Value} {xs : List Value} (hb : Below base a w) (h : w.ownsRow base e size v n xs) (hg : w.grownBy w1 v.ownBlock) (hB : base ≤ w.heap.size) : Below base a w1 :=
  hb.grown hg hB fun k hk => (h.lt k hk).1
end Go.Proofs.YtkdaphkpllgmbaaGreat
namespace Go.Proofs.YtkdaphkpllgmbaaGreat
open Go.RowKit Go.WideShapes Go.ChangeShapes Go.Deep
set_option linter.unusedVariables false
def int64Cell (n : Int) : List Value := [.int .i64 n]
def int64Good (n : Int) : Prop := IntKind.i64.min ≤ n ∧ n ≤ IntKind.i64.max
theorem dec_int64 (W : World) : Dec Tryz.prog W 3 Int int64Cell int64Good := dec_int Tryz.underlying3
theorem int64Cell_len (n : Int) : (int64Cell n).length = 1 := rfl
def u8Cell (n : Int) : List Value := [.int .u8 n]
def u8Good (n : Int) : Prop := IntKind.u8.min ≤ n ∧ n ≤ IntKind.u8.max
theorem dec_u8 (W : World) : Dec Tryz.prog W 5 Int u8Cell u8Good := dec_int Tryz.underlying5
theorem u8Cell_len (n : Int) : (u8Cell n).length = 1 := rfl
def u16Cell (n : Int) : List Value := [.int .u16 n]
def u16Good (n : Int) : Prop := IntKind.u16.min ≤ n ∧ n ≤ IntKind.u16.max
theorem dec_u16 (W : World) : Dec Tryz.prog W 37 Int u16Cell u16Good := dec_int Tryz.underlying37
theorem u16Cell_len (n : Int) : (u16Cell n).length = 1 := rfl
def boolCell (b : Bool) : List Value := [.bool b]
def boolGood (_ : Bool) : Prop := True
theorem dec_boolC (W : World) : Dec Tryz.prog W 4 Bool boolCell boolGood := dec_bool Tryz.underlying4
theorem boolCell_len (n : Bool) : (boolCell n).length = 1 := rfl

/-! ### api.Config -/
structure Config where
  kind : Int
  rom : Int
def Config.cells (r : Config) : List Value := [.int .i64 r.kind, .int .i64 r.rom]
theorem Config.cells_len (r : Config) : r.cells.length = 2 := rfl
structure Config.Good (r : Config) : Prop where
  kind : IntKind.i64.min ≤ r.kind ∧ r.kind ≤ IntKind.i64.max
  rom : IntKind.i64.min ≤ r.rom ∧ r.rom ≤ IntKind.i64.max
theorem dec_Config (W : World) : Dec Tryz.prog W 23 Config Config.cells (Config.Good) := fun H enc fuel cs x h => by
  obtain ⟨hl, hf⟩ := dec_struct Tryz.underlying23 (by kernel_rfl) (by kernel_rfl) h
  match cs, hl with
  | [c0, c1], _ =>
    obtain ⟨n0, y0, h0⟩ := hf 0 _ c0 rfl rfl
    obtain ⟨b0, e0, g0⟩ := dec_int Tryz.underlying3 H enc _ _ _ h0
    obtain rfl := (List.cons.inj e0).1
    obtain ⟨n1, y1, h1⟩ := hf 1 _ c1 rfl rfl
    obtain ⟨b1, e1, g1⟩ := dec_int Tryz.underlying3 H enc _ _ _ h1
    obtain rfl := (List.cons.inj e1).1
    exact ⟨⟨b0, b1⟩, rfl, ⟨g0, g1⟩⟩

/-! ### spinetlaw34.World -/
structure LWorld where
  low : Sl Int
  high : Sl Int
def LWorld.cells (r : LWorld) : List Value := [r.low.v, r.high.v]
theorem LWorld.cells_len (r : LWorld) : r.cells.length = 2 := rfl
structure LWorld.Good (W : World) (r : LWorld) : Prop where
  low : r.low.Good W 1 u8Cell u8Good
  high : r.high.Good W 1 u8Cell u8Good
theorem dec_LWorld (W : World) : Dec Tryz.prog W 26 LWorld LWorld.cells (LWorld.Good W) := fun H enc fuel cs x h => by
  obtain ⟨hl, hf⟩ := dec_struct Tryz.underlying26 (by kernel_rfl) (by kernel_rfl) h
  match cs, hl with
  | [c0, c1], _ =>
    obtain ⟨n0, y0, h0⟩ := hf 0 _ c0 rfl rfl
    obtain ⟨b0, e0, g0⟩ := dec_slice (size := 1) Tryz.underlying24 (by kernel_rfl) (by decide) (fun _ => rfl) (dec_u8 W) H enc _ _ _ h0
    obtain rfl := (List.cons.inj e0).1
    obtain ⟨n1, y1, h1⟩ := hf 1 _ c1 rfl rfl
    obtain ⟨b1, e1, g1⟩ := dec_slice (size := 1) Tryz.underlying24 (by kernel_rfl) (by decide) (fun _ => rfl) (dec_u8 W) H enc _ _ _ h1
    obtain rfl := (List.cons.inj e1).1
    exact ⟨⟨b0, b1⟩, rfl, ⟨g0, g1⟩⟩

/-! ### api.Pins -/
structure Pins where
  reset : Bool
  nmi : Bool
  firq : Bool
  irq : Bool
  halt : Bool
  req : Bool
def Pins.cells (r : Pins) : List Value := [.bool r.reset, .bool r.nmi, .bool r.firq, .bool r.irq, .bool r.halt, .bool r.req]
theorem Pins.cells_len (r : Pins) : r.cells.length = 6 := rfl
structure Pins.Good (r : Pins) : Prop where
  reset : True
  nmi : True
  firq : True
  irq : True
  halt : True
  req : True
theorem dec_Pins (W : World) : Dec Tryz.prog W 48 Pins Pins.cells (Pins.Good) := fun H enc fuel cs x h => by
  obtain ⟨hl, hf⟩ := dec_struct Tryz.underlying48 (by kernel_rfl) (by kernel_rfl) h
  match cs, hl with
  | [c0, c1, c2, c3, c4, c5], _ =>
    obtain ⟨n0, y0, h0⟩ := hf 0 _ c0 rfl rfl
    obtain ⟨b0, e0, g0⟩ := dec_bool Tryz.underlying4 H enc _ _ _ h0
    obtain rfl := (List.cons.inj e0).1
    obtain ⟨n1, y1, h1⟩ := hf 1 _ c1 rfl rfl
    obtain ⟨b1, e1, g1⟩ := dec_bool Tryz.underlying4 H enc _ _ _ h1
    obtain rfl := (List.cons.inj e1).1
    obtain ⟨n2, y2, h2⟩ := hf 2 _ c2 rfl rfl
    obtain ⟨b2, e2, g2⟩ := dec_bool Tryz.underlying4 H enc _ _ _ h2
    obtain rfl := (List.cons.inj e2).1
    obtain ⟨n3, y3, h3⟩ := hf 3 _ c3 rfl rfl
    obtain ⟨b3, e3, g3⟩ := dec_bool Tryz.underlying4 H enc _ _ _ h3
    obtain rfl := (List.cons.inj e3).1
    obtain ⟨n4, y4, h4⟩ := hf 4 _ c4 rfl rfl
    obtain ⟨b4, e4, g4⟩ := dec_bool Tryz.underlying4 H enc _ _ _ h4
    obtain rfl := (List.cons.inj e4).1
    obtain ⟨n5, y5, h5⟩ := hf 5 _ c5 rfl rfl
    obtain ⟨b5, e5, g5⟩ := dec_bool Tryz.underlying4 H enc _ _ _ h5
    obtain rfl := (List.cons.inj e5).1
    exact ⟨⟨b0, b1, b2, b3, b4, b5⟩, rfl, ⟨g0, g1, g2, g3, g4, g5⟩⟩
end Go.Proofs.YtkdaphkpllgmbaaGreat
namespace Go.Proofs.YtkdaphkpllgmbaaGreat
open Go.RowKit
def bytesV (l : List UInt8) : List Value := l.map fun c : UInt8 => .int .u8 (c.toNat : Int)
theorem bytesV_get (l : List UInt8) (k : Nat) (u : Value) (h : (bytesV l)[k]? = some u) : ∃ c, l[k]? = some c ∧ u = .int .u8 (c.toNat : Int) := by
  unfold bytesV at h
  rw [List.getElem?_map] at h
  obtain ⟨c, h1, h2⟩ := Option.map_eq_some_iff.1 h
  exact ⟨c, h1, h2.symm⟩
theorem info_u8 : (Tryz.prog.info? 5).map (fun i => (i.zero, i.size, i.bytes)) = some (some (.int .u8 0), 1, 1) := by kernel_rfl
theorem bytesV_append (l m : List UInt8) : bytesV (l ++ m) = bytesV l ++ bytesV m := by simp [bytesV]
theorem bytesV_length (l : List UInt8) : (bytesV l).length = l.length := by simp [bytesV]
theorem bytesV_one (l : List UInt8) : ∀ u ∈ bytesV l, u.oneCell' = true := by
  intro u hu
  obtain ⟨c, _, rfl⟩ := List.mem_map.1 hu
  rfl
theorem str_list (s : ByteArray) : ∃ l : List UInt8, s = ⟨l.toArray⟩ ∧ s.size = l.length := ⟨s.data.toList, by simp, rfl⟩
/-- Bytes that came in are the cells of a list of bytes. -/
theorem bytes_in {ys : List Int} (h : ∀ y ∈ ys, u8Good y) : ∃ l : List UInt8, ys.flatMap u8Cell = bytesV l ∧ l.length = ys.length := by
  induction ys with
  | nil => exact ⟨[], rfl, rfl⟩
  | cons y ys ih =>
    obtain ⟨l, h1, h2⟩ := ih (fun y hy => h y (List.mem_cons_of_mem _ hy))
    have hy := h y List.mem_cons_self
    unfold u8Good at hy
    simp [IntKind.min, IntKind.max, IntKind.signed, IntKind.bits] at hy
    refine ⟨UInt8.ofNat y.toNat :: l, ?_, by simp [h2]⟩
    have e : (((UInt8.ofNat y.toNat).toNat : Nat) : Int) = y := by rw [UInt8.toNat_ofNat']; omega
    rw [List.flatMap_cons, h1]
    simp only [bytesV, List.map_cons, e]
    rfl
end Go.Proofs.YtkdaphkpllgmbaaGreat
namespace Go.Proofs.YtkdaphkpllgmbaaGreat
open Go.RowKit
theorem u16_in (n : Int) (h0 : 0 ≤ n) (h1 : n < 2 ^ 16) : IntKind.u16.wrap n = n := by
  simp [IntKind.wrap, IntKind.bits, IntKind.signed]; omega
theorem or16 (hi lo : Int) (h0 : 0 ≤ hi) (h1 : hi ≤ 255) (l0 : 0 ≤ lo) (l1 : lo ≤ 255) : bits .or .u16 (hi * 256) lo = 256 * hi + lo := by
  rw [bits_join .u16 16 (by decide) u16_in 8 (hi * 256) lo (by omega) (by omega) (by omega) l0 (by omega) (by omega), Int.mul_comm]

theorem Word_any (hi lo : Int) (w : World) (h0 : 0 ≤ hi) (h1 : hi ≤ 255) (l0 : 0 ≤ lo) (l1 : lo ≤ 255) :
    Calls Tryz.prog 161 #[.int .u8 hi, .int .u8 lo] w fun e w' => e = .returned (.int .u16 (256 * hi + lo)) ∧ w = w' := by
  go_enter Tryz.func161, Tryz.ntmps161
  go_wp2
  go_ret
  exact ⟨ret_int (or16 hi lo h0 h1 l0 l1), rfl⟩
theorem High_any (x : Int) (w : World) (h0 : 0 ≤ x) (h1 : x ≤ 65535) :
    Calls Tryz.prog 29 #[.int .u16 x] w fun e w' => e = .returned (.int .u8 (x / 256)) ∧ w = w' := by
  go_enter Tryz.func29, Tryz.ntmps29
  go_wp2
  go_ret
  exact ⟨ret_int (by omega), rfl⟩
theorem Low_any (x : Int) (w : World) (_h0 : 0 ≤ x) (_h1 : x ≤ 65535) :
    Calls Tryz.prog 30 #[.int .u16 x] w fun e w' => e = .returned (.int .u8 (x % 256)) ∧ w = w' := by
  go_enter Tryz.func30, Tryz.ntmps30
  go_wp2
  go_ret
  exact ⟨rfl, rfl⟩
end Go.Proofs.YtkdaphkpllgmbaaGreat
namespace Go.Proofs.YtkdaphkpllgmbaaGreat
open Go.RowKit
def pageL (m : Nat → UInt8) (i : Nat) : List Value := (List.range 256).map fun j => .int .u8 ((m (256 * i + j)).toNat : Int)
def pv (c : Nat) : Option Nat → Value
  | none => .slice none 0 0
  | some b => .slice (some ⟨b, 0, none⟩) 256 c
/-- Block g is memory with the bytes m, of which the end can't be written from rom on; pb: the pages' blocks. -/
structure RamAt (B g : Nat) (m : Nat → UInt8) (rom : Int) (pb : Nat → Option Nat) (cs : Array Value) (w : World) : Prop where
  hB : B ≤ g
  blk : Blk w g 91 cs
  size : cs.size = 257
  romc : cs[256]? = some (.int .i64 rom)
  cell : ∀ i, i < 256 → ∃ c, 256 ≤ c ∧ cs[i]? = some (pv c (pb i))
  nilp : ∀ i, i < 256 → pb i = none → ∀ j, j < 256 → m (256 * i + j) = 0
  page : ∀ i b, i < 256 → pb i = some b → (∃ ps : Array Value, Blk w b 5 ps ∧ ∀ j, j < 256 → ps[j]? = some (.int .u8 ((m (256 * i + j)).toNat : Int))) ∧ B ≤ b ∧ b ≠ g
  inj : ∀ i j b, i < 256 → j < 256 → pb i = some b → pb j = some b → i = j
theorem pageL_get (m : Nat → UInt8) (i j : Nat) (hj : j < 256) : (pageL m i).toArray[j]? = some (.int .u8 ((m (256 * i + j)).toNat : Int)) := by
  simp [pageL, hj]
theorem RamAt.below {B g : Nat} {m : Nat → UInt8} {rom : Int} {pb : Nat → Option Nat} {cs : Array Value} {w w' : World} (h : RamAt B g m rom pb cs w) (hb : Below w.heap.size w w') : RamAt B g m rom pb cs w' :=
  ⟨h.hB, h.blk.below hb h.blk.lt, h.size, h.romc, h.cell, h.nilp, fun i b hi hp => by
    obtain ⟨⟨ps, h1, h4⟩, h2, h3⟩ := h.page i b hi hp
    exact ⟨⟨ps, h1.below hb h1.lt, h4⟩, h2, h3⟩, h.inj⟩
theorem High_ij (i j : Nat) (w : World) (hi : i < 256) (hj : j < 256) :
    Calls Tryz.prog 29 #[.int .u16 ((256 * i + j : Nat) : Int)] w fun e w' => e = .returned (.int .u8 i) ∧ w = w' := by
  have h := High_any ((256 * i + j : Nat) : Int) w (by omega) (by omega)
  rw [show ((256 * i + j : Nat) : Int) / 256 = (i : Int) by omega] at h
  exact h
theorem Low_ij (i j : Nat) (w : World) (hi : i < 256) (hj : j < 256) :
    Calls Tryz.prog 30 #[.int .u16 ((256 * i + j : Nat) : Int)] w fun e w' => e = .returned (.int .u8 j) ∧ w = w' := by
  have h := Low_any ((256 * i + j : Nat) : Int) w (by omega) (by omega)
  rw [show ((256 * i + j : Nat) : Int) % 256 = (j : Int) by omega] at h
  exact h
set_option maxRecDepth 100000 in
set_option maxHeartbeats 2000000 in
theorem RamRead_any {B g : Nat} {m : Nat → UInt8} {rom : Int} {pb : Nat → Option Nat} {cs : Array Value} (i j : Nat) (w : World) (h : RamAt B g m rom pb cs w) (hi : i < 256) (hj : j < 256) :
    Calls Tryz.prog 16 #[.pointer (some ⟨g, 0, none⟩), .int .u16 ((256 * i + j : Nat) : Int)] w fun e w' => e = .returned (.int .u8 ((m (256 * i + j)).toNat : Int)) ∧ Below w.heap.size w w' := by
  obtain ⟨cap, hcap, hce⟩ := h.cell i hi
  have c := (h.blk.cell i).trans hce
  clear hce
  have HHI := Lib.hid (fun W => High_ij i j W hi hj)
  have HLO := Lib.hid (fun W => Low_ij i j W hi hj)
  have hi0 : (0 : Int) ≤ (i : Int) := by omega
  have hi1 : (i : Int) < 256 := by omega
  have hj0 : (0 : Int) ≤ (j : Int) := by omega
  have hj1 : (j : Int) < 256 := by omega
  generalize hA : ((256 * i + j : Nat) : Int) = a at *
  cases hp : pb i with
  | none =>
    rw [hp] at c
    have hz : Hid ((m (256 * i + j)).toNat = 0) := by
      show (m (256 * i + j)).toNat = 0
      rw [h.nilp i hi hp j hj]
      rfl
    replace c : w.cell? ⟨g, i, none⟩ = some (.slice none 0 0) := c
    clear hA
    have hnil : ∀ W : World, (binOp .eql 24 (.slice none 0 0) (.slice none 0 0)).run Tryz.prog W = .ok (.bool true) W := fun _ => rfl
    go_enter Tryz.func16, Tryz.ntmps16
    go_wp2_with fail
    go_quiet ((go_at_call 29; with_reducible refine (HHI.out _).mono ?_; rintro e w' ⟨rfl, rfl⟩; exact ⟨rfl, _, rfl⟩))
    go_wp2
    go_ret
    rw [hz.out]
    exact ⟨rfl, below_drewN (Below.refl _ _) _⟩
  | some b =>
    rw [hp] at c
    replace c : w.cell? ⟨g, i, none⟩ = some (.slice (some ⟨b, 0, none⟩) 256 cap) := c
    obtain ⟨⟨ps, hpg, hpc⟩, _, _⟩ := h.page i b hi hp
    have d := (hpg.cell j).trans (hpc j hj)
    clear hpc
    generalize (m (256 * i + j)).toNat = x at *
    clear hA hpg
    have hnil : ∀ W : World, (binOp .eql 24 (.slice (some ⟨b, 0, none⟩) 256 cap) (.slice none 0 0)).run Tryz.prog W = .ok (.bool false) W := fun _ => rfl
    go_enter Tryz.func16, Tryz.ntmps16
    go_wp2_with fail
    go_quiet ((go_at_call 29; with_reducible refine (HHI.out _).mono ?_; rintro e w' ⟨rfl, rfl⟩; exact ⟨rfl, _, rfl⟩))
    go_wp2_with ((go_at_call 30; with_reducible refine (HLO.out _).mono ?_; rintro e w' ⟨rfl, rfl⟩))
    go_ret
    exact ⟨rfl, below_drewN (Below.refl _ _) _⟩
end Go.Proofs.YtkdaphkpllgmbaaGreat
namespace Go.Proofs.YtkdaphkpllgmbaaGreat
open Go.RowKit
def upd (m : Nat → UInt8) (a : Nat) (b : UInt8) : Nat → UInt8 := fun k => if k = a then b else m k
theorem pageL_upd (m : Nat → UInt8) (i j : Nat) (b : UInt8) (hj : j < 256) : (pageL m i).toArray.setIfInBounds j (.int .u8 (b.toNat : Int)) = (pageL (upd m (256 * i + j) b) i).toArray := by
  apply Array.ext'
  simp only [Array.toList_setIfInBounds]
  apply List.ext_getElem?
  intro k
  rw [List.getElem?_set]
  simp only [pageL, List.length_map, List.length_range, List.getElem?_map]
  by_cases hk : k < 256
  · by_cases hjk : j = k
    · subst hjk
      simp [upd, hk]
    · have hkj : k ≠ j := fun e => hjk e.symm
      simp [upd, hk, hjk, hkj]
  · have h1 : j ≠ k := by omega
    simp [h1, hk]
theorem pageL_other (m : Nat → UInt8) (i j k : Nat) (b : UInt8) (hj : j < 256) (hk : k ≠ i) : pageL (upd m (256 * i + j) b) k = pageL m k := by
  unfold pageL
  apply List.map_congr_left
  intro l hl
  rw [List.mem_range] at hl
  have : 256 * k + l ≠ 256 * i + j := by omega
  simp [upd, this]
/-- Nothing has turned but memory's own blocks. -/
structure OnlyRam (g : Nat) (pb : Nat → Option Nat) (w w' : World) : Prop where
  os : w'.os = w.os
  tape : w'.tape = w.tape
  output : w'.output = w.output
  size : w.heap.size ≤ w'.heap.size
  block : ∀ k, k < w.heap.size → k ≠ g → (∀ i, i < 256 → pb i ≠ some k) → w'.heap[k]? = w.heap[k]?
/-- A byte of a page that is there is turned. -/
theorem RamAt.poke {B g : Nat} {m : Nat → UInt8} {rom : Int} {pb : Nat → Option Nat} {cs : Array Value} {w : World} (h : RamAt B g m rom pb cs w) (i j b : Nat) (x : UInt8) (hi : i < 256) (hj : j < 256) (hb : pb i = some b) :
    RamAt B g (upd m (256 * i + j) x) rom pb cs (w.setCell ⟨b, j, none⟩ (.int .u8 (x.toNat : Int))) := by
  obtain ⟨h1, h2, h3⟩ := h.page i b hi hb
  refine ⟨h.hB, h.blk.far (fun e => h3 e.symm) _, h.size, h.romc, h.cell, fun k hk hp l hl => ?_, fun k c hk hp => ?_, h.inj⟩
  · have hne : k ≠ i := fun e => by rw [e, hb] at hp; cases hp
    have : 256 * k + l ≠ 256 * i + j := by omega
    simp only [upd, if_neg this]
    exact h.nilp k hk hp l hl
  · obtain ⟨⟨ps, g1, g4⟩, g2, g3⟩ := h.page k c hk hp
    by_cases hki : k = i
    · subst hki
      have hbc : c = b := by rw [hp] at hb; exact Option.some.inj hb
      subst hbc
      refine ⟨⟨_, g1.set_ j _, fun l hl => ?_⟩, g2, g3⟩
      have hsz : j < ps.size := (Array.getElem?_eq_some_iff.1 (g4 j hj)).1
      by_cases hlj : l = j
      · subst hlj
        rw [Array.getElem?_setIfInBounds_self_of_lt hsz]
        simp [upd]
      · rw [Array.getElem?_setIfInBounds_ne (fun e => hlj e.symm)]
        have : 256 * k + l ≠ 256 * k + j := by omega
        simp only [upd, if_neg this]
        exact g4 l hl
    · refine ⟨⟨ps, ?_, fun l hl => ?_⟩, g2, g3⟩
      rotate_left
      · have : 256 * k + l ≠ 256 * i + j := by omega
        simp only [upd, if_neg this]
        exact g4 l hl
      refine g1.far (fun e => ?_) _
      subst e
      exact hki (h.inj k i c hk hi hp hb)
set_option maxRecDepth 100000 in
set_option maxHeartbeats 2000000 in
theorem Poke_there {B g : Nat} {m : Nat → UInt8} {rom : Int} {pb : Nat → Option Nat} {cs : Array Value} (i j b : Nat) (x : UInt8) (w : World) (h : RamAt B g m rom pb cs w) (hi : i < 256) (hj : j < 256) (hb : pb i = some b) :
    Calls Tryz.prog 108 #[.pointer (some ⟨g, 0, none⟩), .int .u16 ((256 * i + j : Nat) : Int), .int .u8 (x.toNat : Int)] w fun e w' => e = .returned (.tuple #[]) ∧ RamAt B g (upd m (256 * i + j) x) rom pb cs w' ∧ OnlyRam g pb w w' ∧ Below B w w' := by
  obtain ⟨cap, hcap, hce⟩ := h.cell i hi
  have c := (h.blk.cell i).trans hce
  clear hce
  rw [hb] at c
  replace c : w.cell? ⟨g, i, none⟩ = some (.slice (some ⟨b, 0, none⟩) 256 cap) := c
  obtain ⟨⟨ps, hpg, hpc⟩, hBb, hbg⟩ := h.page i b hi hb
  have d := (hpg.cell j).trans (hpc j hj)
  clear hpc
  have f := hpg.frozen j
  have HHI := Lib.hid (fun W => High_ij i j W hi hj)
  have HLO := Lib.hid (fun W => Low_ij i j W hi hj)
  have hi0 : (0 : Int) ≤ (i : Int) := by omega
  have hi1 : (i : Int) < 256 := by omega
  have hj0 : (0 : Int) ≤ (j : Int) := by omega
  have hj1 : (j : Int) < 256 := by omega
  have HP := Lib.hid (h.poke i j b x hi hj hb)
  have hnil : ∀ W : World, (binOp .eql 24 (.slice (some ⟨b, 0, none⟩) 256 cap) (.slice none 0 0)).run Tryz.prog W = .ok (.bool false) W := fun _ => rfl
  have hlt := hpg.lt
  generalize ((256 * i + j : Nat) : Int) = a at *
  generalize (m (256 * i + j)).toNat = y at *
  have hgb : g ≠ b := fun e => hbg e.symm
  clear hpg
  go_enter Tryz.func108, Tryz.ntmps108
  go_wp2_with ((go_at_call 29; with_reducible refine (HHI.out _).mono ?_; rintro e w' ⟨rfl, rfl⟩))
  go_region_held3 (fun w' => w'.cell? ⟨g, i, none⟩ = some (.slice (some ⟨b, 0, none⟩) 256 cap)) (first | (go_keep; done)) (first | (go_at_call 30; with_reducible refine (HLO.out _).mono ?_; rintro e w' ⟨rfl, rfl⟩))
  all_goals
    go_wp2
    go_end0
    have hp := HP.out
    refine ⟨rfl, ?_, ?_, ?_⟩
    · first | exact hp | exact hp.below (below_drewN (Below.refl _ _) 1)
    · refine ⟨rfl, rfl, rfl, by simp, fun k hk hkg hkp => ?_⟩
      exact Below.heap_setCell _ _ _ _ (fun e => hkp i hi (by rw [hb, e]))
    · exact below_drewN ((Below.refl B w).setCell hBb _) 1
end Go.Proofs.YtkdaphkpllgmbaaGreat
namespace Go.Proofs.YtkdaphkpllgmbaaGreat
open Go.RowKit
theorem zeroCells : (List.replicate 256 (Value.int .u8 0)).toArray = madeCells #[.int .u8 0] 256 := by kernel_rfl
theorem madeZero (j : Nat) (hj : j < 256) : (madeCells #[.int .u8 0] 256)[j]? = some (.int .u8 0) := by
  rw [← zeroCells]
  simp [hj, -List.reduceReplicate]
theorem pageL_zero (m : Nat → UInt8) (i : Nat) (h : ∀ j, j < 256 → m (256 * i + j) = 0) : (pageL m i).toArray = madeCells #[.int .u8 0] 256 := by
  have e : pageL m i = List.replicate 256 (.int .u8 0) := by
    unfold pageL
    rw [List.eq_replicate_iff]
    refine ⟨by simp, fun v hv => ?_⟩
    rw [List.mem_map] at hv
    obtain ⟨j, hj, rfl⟩ := hv
    rw [List.mem_range] at hj
    rw [h j hj]
    rfl
  rw [e]
  exact zeroCells
theorem RamAt.fresh {B g : Nat} {m : Nat → UInt8} {rom : Int} {pb : Nat → Option Nat} {cs : Array Value} {w : World} (h : RamAt B g m rom pb cs w) (hBw : B ≤ w.heap.size) (i : Nat) (hi : i < 256) (hp : pb i = none) :
    RamAt B g m rom (fun k => if k = i then some w.heap.size else pb k) (cs.setIfInBounds i (pv 256 (some w.heap.size))) ((w.setCell ⟨g, i, none⟩ (pv 256 (some w.heap.size))).alloc (.cells (madeCells #[.int .u8 0] 256) 5)) := by
  have hlt := h.blk.lt
  refine ⟨h.hB, (h.blk.set_ i _).alloc _, by rw [Array.size_setIfInBounds]; exact h.size, ?_, fun k hk => ?_, fun k hk hpk => ?_, fun k b hk hpk => ?_, fun k l b hk hl hpk hpl => ?_⟩
  · rw [Array.getElem?_setIfInBounds_ne (by omega)]
    exact h.romc
  · by_cases hki : k = i
    · subst hki
      exact ⟨256, Nat.le_refl _, by rw [Array.getElem?_setIfInBounds_self_of_lt (by rw [h.size]; omega), if_pos rfl]⟩
    · rw [Array.getElem?_setIfInBounds_ne (fun e => hki e.symm), if_neg hki]
      exact h.cell k hk
  · by_cases hki : k = i
    · rw [if_pos hki] at hpk; cases hpk
    · rw [if_neg hki] at hpk
      exact h.nilp k hk hpk
  · by_cases hki : k = i
    · subst hki
      rw [if_pos rfl] at hpk
      obtain rfl := Option.some.inj hpk
      refine ⟨⟨madeCells #[.int .u8 0] 256, ?_, fun j hj => ?_⟩, hBw, by omega⟩
      · have hn := Blk.new (w.setCell ⟨g, k, none⟩ (pv 256 (some w.heap.size))) 5 (madeCells #[.int .u8 0] 256)
        simpa using hn
      · rw [madeZero j hj, h.nilp k hk hp j hj]
        rfl
    · rw [if_neg hki] at hpk
      obtain ⟨⟨ps, g1, g4⟩, g2, g3⟩ := h.page k b hk hpk
      exact ⟨⟨ps, (g1.far g3 _).alloc _, g4⟩, g2, g3⟩
  · have hold : ∀ k b, k < 256 → pb k = some b → b < w.heap.size := fun k b hk e => (h.page k b hk e).1.elim fun ps hps => hps.1.lt
    by_cases hki : k = i
    · by_cases hli : l = i
      · rw [hki, hli]
      · rw [if_pos hki] at hpk
        rw [if_neg hli] at hpl
        have := hold l b hl hpl
        have := Option.some.inj hpk
        omega
    · by_cases hli : l = i
      · rw [if_neg hki] at hpk
        rw [if_pos hli] at hpl
        have := hold k b hk hpk
        have := Option.some.inj hpl
        omega
      · rw [if_neg hki] at hpk
        rw [if_neg hli] at hpl
        exact h.inj k l b hk hl hpk hpl
theorem upd_same (m : Nat → UInt8) (a : Nat) (h : m a = 0) : upd m a 0 = m := by
  funext k
  unfold upd
  split
  · rename_i e; rw [e, h]
  · rfl
set_option maxRecDepth 100000 in
set_option maxHeartbeats 2000000 in
theorem Poke_none {B g : Nat} {m : Nat → UInt8} {rom : Int} {pb : Nat → Option Nat} {cs : Array Value} (i j : Nat) (x : UInt8) (w : World) (h : RamAt B g m rom pb cs w) (hBw : B ≤ w.heap.size) (hi : i < 256) (hj : j < 256) (hp : pb i = none) (hx : x ≠ 0) :
    Calls Tryz.prog 108 #[.pointer (some ⟨g, 0, none⟩), .int .u16 ((256 * i + j : Nat) : Int), .int .u8 (x.toNat : Int)] w fun e w' => e = .returned (.tuple #[]) ∧ RamAt B g (upd m (256 * i + j) x) rom (fun k => if k = i then some w.heap.size else pb k) (cs.setIfInBounds i (pv 256 (some w.heap.size))) w' ∧ OnlyRam g pb w w' ∧ Below B w w' := by
  obtain ⟨i0, hi', hz0, hz1, hz2⟩ := info_parts info_u8
  obtain ⟨cap0, hcap0, hce0⟩ := h.cell i hi
  have c := (h.blk.cell i).trans hce0
  clear hce0 hcap0
  rw [hp] at c
  replace c : w.cell? ⟨g, i, none⟩ = some (.slice none 0 0) := c
  have f := h.blk.frozen i
  have hlt := h.blk.lt
  have HHI := Lib.hid (fun W => High_ij i j W hi hj)
  have HLO := Lib.hid (fun W => Low_ij i j W hi hj)
  have hii0 : (0 : Int) ≤ (i : Int) := by omega
  have hii1 : (i : Int) < 256 := by omega
  have hj0 : (0 : Int) ≤ (j : Int) := by omega
  have hj1 : (j : Int) < 256 := by omega
  have hnil : ∀ W : World, (binOp .eql 24 (.slice none 0 0) (.slice none 0 0)).run Tryz.prog W = .ok (.bool true) W := fun _ => rfl
  have hx0 : ((x.toNat : Int) == 0) = false := by
    rw [beq_eq_false_iff_ne]
    intro e
    exact hx (UInt8.toNat_inj.1 (by simpa using e))
  have hmk : ∀ u : World, (Instr.makeSlice 24 (.int .i64 256) (.int .i64 256)).run Tryz.prog u = .ok (.slice (some ⟨u.heap.size, 0, none⟩) 256 256) (u.alloc (.cells (madeCells #[.int .u8 0] 256) 5)) := fun u => by
    have h := run_make (P := Tryz.prog) u 24 5 i0 (.int .u8 0) Tryz.underlying24 hi' hz0 .i64 .i64 256 256 (by omega) (by omega) (by rw [hz2]; omega) (by omega)
    simpa [hz1, Value.cells] using h
  have HF := Lib.hid (h.fresh hBw i hi hp)
  have HBG := Lib.hid h.hB
  have hsz0 := h.size
  generalize ((256 * i + j : Nat) : Int) = a at *
  clear h
  go_enter Tryz.func108, Tryz.ntmps108
  go_wp2_with ((go_at_call 29; with_reducible refine (HHI.out _).mono ?_; rintro e w' ⟨rfl, rfl⟩))
  go_region
  have hF := HF.out.below (below_drewN (Below.refl _ _) 1)
  have hlt2 : g < ((w.setCell ⟨g, i, none⟩ (.slice (some ⟨w.heap.size, 0, none⟩) 256 256)).alloc (.cells (madeCells #[.int .u8 0] 256) 5)).drew.heap.size := by simp; omega
  have hOn : OnlyRam g pb w ((w.setCell ⟨g, i, none⟩ (.slice (some ⟨w.heap.size, 0, none⟩) 256 256)).alloc (.cells (madeCells #[.int .u8 0] 256) 5)).drew := by
    refine ⟨rfl, rfl, rfl, by simp, fun k hk hkg hkp => ?_⟩
    have h1 := Below.heap_alloc (w.setCell ⟨g, i, none⟩ (.slice (some ⟨w.heap.size, 0, none⟩) 256 256)) (.cells (madeCells #[.int .u8 0] 256) 5) k (by simpa using hk)
    exact h1.trans (Below.heap_setCell _ _ _ _ (fun e => hkg e))
  have hBe : Below B w ((w.setCell ⟨g, i, none⟩ (.slice (some ⟨w.heap.size, 0, none⟩) 256 256)).alloc (.cells (madeCells #[.int .u8 0] 256) 5)).drew := below_drewN (((Below.refl B w).setCell HBG.out _).alloc (by simpa using hBw) _) 1
  replace hF : RamAt B g m rom (fun k => if k = i then some w.heap.size else pb k) (cs.setIfInBounds i (pv 256 (some w.heap.size))) ((w.setCell ⟨g, i, none⟩ (.slice (some ⟨w.heap.size, 0, none⟩) 256 256)).alloc (.cells (madeCells #[.int .u8 0] 256) 5)).drew := hF
  generalize ((w.setCell ⟨g, i, none⟩ (.slice (some ⟨w.heap.size, 0, none⟩) 256 256)).alloc (.cells (madeCells #[.int .u8 0] 256) 5)).drew = w1 at *
  have c1 : w1.cell? ⟨g, i, none⟩ = some (.slice (some ⟨w.heap.size, 0, none⟩) 256 256) := by
    rw [hF.blk.cell i, Array.getElem?_setIfInBounds_self_of_lt (by rw [hsz0]; omega)]
    rfl
  obtain ⟨⟨ps, hpg, hpc⟩, hBb, hbg⟩ := hF.page i w.heap.size hi (if_pos rfl)
  have d := (hpg.cell j).trans (hpc j hj)
  clear hpc
  have f1 := hpg.frozen j
  have HP := Lib.hid (hF.poke i j w.heap.size x hi hj (if_pos rfl))
  generalize (m (256 * i + j)).toNat = y at *
  have hgb : g ≠ w.heap.size := fun e => hbg e.symm
  have hs1 := hOn.size
  clear hpg hF HF c f hmk hsz0
  go_wp2_with fail
  go_region_held3 (fun w' => w'.cell? ⟨g, i, none⟩ = some (.slice (some ⟨w.heap.size, 0, none⟩) 256 256)) (first | (go_keep; done)) (first | (go_at_call 30; with_reducible refine (HLO.out _).mono ?_; rintro e w' ⟨rfl, rfl⟩))
  all_goals
    go_wp2
    go_end0
    have hp := HP.out
    refine ⟨rfl, ?_, ?_, ?_⟩
    · first | exact hp | exact hp.below (below_drewN (Below.refl _ _) 1)
    · refine ⟨hOn.os, hOn.tape, hOn.output, by simpa using hs1, fun k hk hkg hkp => ?_⟩
      exact (Below.heap_setCell _ _ _ _ (fun e => by dsimp only at e; omega)).trans (hOn.block k hk hkg hkp)
    · exact below_drewN (hBe.setCell hBw _) 1
set_option maxRecDepth 100000 in
set_option maxHeartbeats 2000000 in
theorem Poke_zero {B g : Nat} {m : Nat → UInt8} {rom : Int} {pb : Nat → Option Nat} {cs : Array Value} (i j : Nat) (w : World) (h : RamAt B g m rom pb cs w) (hi : i < 256) (hj : j < 256) (hp : pb i = none) :
    Calls Tryz.prog 108 #[.pointer (some ⟨g, 0, none⟩), .int .u16 ((256 * i + j : Nat) : Int), .int .u8 0] w fun e w' => e = .returned (.tuple #[]) ∧ w = w' := by
  obtain ⟨cap0, hcap0, hce0⟩ := h.cell i hi
  have c := (h.blk.cell i).trans hce0
  clear hce0 hcap0
  rw [hp] at c
  replace c : w.cell? ⟨g, i, none⟩ = some (.slice none 0 0) := c
  have HHI := Lib.hid (fun W => High_ij i j W hi hj)
  have hii0 : (0 : Int) ≤ (i : Int) := by omega
  have hii1 : (i : Int) < 256 := by omega
  have hnil : ∀ W : World, (binOp .eql 24 (.slice none 0 0) (.slice none 0 0)).run Tryz.prog W = .ok (.bool true) W := fun _ => rfl
  generalize ((256 * i + j : Nat) : Int) = a at *
  clear h
  go_enter Tryz.func108, Tryz.ntmps108
  go_wp2_with ((go_at_call 29; with_reducible refine (HHI.out _).mono ?_; rintro e w' ⟨rfl, rfl⟩))
  exact bodyPost_ret (results_none rfl _ _ _) rfl ⟨rfl, rfl⟩
/-- A contract's end: memory with the bytes m'; whatever was apart from it stands as it stood, and is apart from it still. -/
structure RamStep (B g : Nat) (m' : Nat → UInt8) (rom : Int) (pb : Nat → Option Nat) (w w' : World) : Prop where
  ram : ∃ pb' cs', RamAt B g m' rom pb' cs' w' ∧ ∀ i b, i < 256 → pb' i = some b → pb i = some b ∨ w.heap.size ≤ b
  only : OnlyRam g pb w w'
  below : Below B w w'
theorem RamStep.refl {B g : Nat} {m : Nat → UInt8} {rom : Int} {pb : Nat → Option Nat} {cs : Array Value} {w : World} (h : RamAt B g m rom pb cs w) : RamStep B g m rom pb w w :=
  ⟨⟨pb, cs, h, fun _ _ _ e => .inl e⟩, ⟨rfl, rfl, rfl, Nat.le_refl _, fun _ _ _ _ => rfl⟩, Below.refl _ _⟩
theorem RamStep.trans {B g : Nat} {m' m'' : Nat → UInt8} {rom : Int} {pb : Nat → Option Nat} {w w1 w2 : World} (h1 : RamStep B g m' rom pb w w1)
    (h2 : ∀ pb' cs', RamAt B g m' rom pb' cs' w1 → RamStep B g m'' rom pb' w1 w2) : RamStep B g m'' rom pb w w2 := by
  obtain ⟨pb1, cs1, hr1, hsub⟩ := h1.ram
  obtain ⟨⟨pb2, cs2, hr2, hsub2⟩, ho2, hb2⟩ := h2 pb1 cs1 hr1
  have ho1 := h1.only
  refine ⟨⟨pb2, cs2, hr2, fun i b hi e => ?_⟩, ⟨ho2.os.trans ho1.os, ho2.tape.trans ho1.tape, ho2.output.trans ho1.output, Nat.le_trans ho1.size ho2.size, fun k hk hkg hkp => ?_⟩, h1.below.trans hb2⟩
  · rcases hsub2 i b hi e with e1 | e1
    · exact hsub i b hi e1
    · exact .inr (Nat.le_trans ho1.size e1)
  · refine (ho2.block k (Nat.lt_of_lt_of_le hk ho1.size) hkg fun i hi e => ?_).trans (ho1.block k hk hkg hkp)
    rcases hsub i k hi e with e1 | e1
    · exact hkp i hi e1
    · omega
theorem Poke_any {B g : Nat} {m : Nat → UInt8} {rom : Int} {pb : Nat → Option Nat} {cs : Array Value} (i j : Nat) (x : UInt8) (w : World) (h : RamAt B g m rom pb cs w) (hBw : B ≤ w.heap.size) (hi : i < 256) (hj : j < 256) :
    Calls Tryz.prog 108 #[.pointer (some ⟨g, 0, none⟩), .int .u16 ((256 * i + j : Nat) : Int), .int .u8 (x.toNat : Int)] w fun e w' => e = .returned (.tuple #[]) ∧ RamStep B g (upd m (256 * i + j) x) rom pb w w' := by
  cases hp : pb i with
  | some b =>
    refine (Poke_there i j b x w h hi hj hp).mono ?_
    rintro e w' ⟨rfl, h1, h2, h3⟩
    exact ⟨rfl, ⟨pb, cs, h1, fun _ _ _ e => .inl e⟩, h2, h3⟩
  | none =>
    by_cases hx : x = 0
    · subst hx
      refine (Poke_zero i j w h hi hj hp).mono ?_
      rintro e w' ⟨rfl, rfl⟩
      rw [upd_same m _ (h.nilp i hi hp j hj)]
      exact ⟨rfl, RamStep.refl h⟩
    · refine (Poke_none i j x w h hBw hi hj hp hx).mono ?_
      rintro e w' ⟨rfl, h1, h2, h3⟩
      refine ⟨rfl, ⟨_, _, h1, fun k b hk e => ?_⟩, h2, h3⟩
      split at e
      · right
        have := Option.some.inj e
        omega
      · exact .inl e
end Go.Proofs.YtkdaphkpllgmbaaGreat
namespace Go.Proofs.YtkdaphkpllgmbaaGreat
open Go.RowKit
theorem Poke_a {B g : Nat} {m : Nat → UInt8} {rom : Int} {pb : Nat → Option Nat} {cs : Array Value} (a : Nat) (x : UInt8) (w : World) (h : RamAt B g m rom pb cs w) (hBw : B ≤ w.heap.size) (ha : a < 65536) :
    Calls Tryz.prog 108 #[.pointer (some ⟨g, 0, none⟩), .int .u16 (a : Int), .int .u8 (x.toNat : Int)] w fun e w' => e = .returned (.tuple #[]) ∧ RamStep B g (upd m a x) rom pb w w' := by
  have h1 := Poke_any (a / 256) (a % 256) x w h hBw (by omega) (by omega)
  rw [show 256 * (a / 256) + a % 256 = a by omega] at h1
  exact h1
theorem Read_a {B g : Nat} {m : Nat → UInt8} {rom : Int} {pb : Nat → Option Nat} {cs : Array Value} (a : Nat) (w : World) (h : RamAt B g m rom pb cs w) (ha : a < 65536) :
    Calls Tryz.prog 16 #[.pointer (some ⟨g, 0, none⟩), .int .u16 (a : Int)] w fun e w' => e = .returned (.int .u8 ((m a).toNat : Int)) ∧ Below w.heap.size w w' := by
  have h1 := RamRead_any (a / 256) (a % 256) w h (by omega) (by omega)
  rw [show 256 * (a / 256) + a % 256 = a by omega] at h1
  exact h1
set_option maxRecDepth 100000 in
set_option maxHeartbeats 2000000 in
theorem Write_a {B g : Nat} {m : Nat → UInt8} {rom : Int} {pb : Nat → Option Nat} {cs : Array Value} (a : Nat) (x : UInt8) (w : World) (h : RamAt B g m rom pb cs w) (hBw : B ≤ w.heap.size) (ha : a < 65536) :
    Calls Tryz.prog 280 #[.pointer (some ⟨g, 0, none⟩), .int .u16 (a : Int), .int .u8 (x.toNat : Int)] w fun e w' => e = .returned (.bool (decide ((a : Int) < rom))) ∧ RamStep B g (if (a : Int) < rom then upd m a x else m) rom pb w w' := by
  have c := (h.blk.cell 256).trans h.romc
  by_cases hr : (a : Int) < rom
  · rw [decide_eq_true hr, if_pos hr]
    have HP := Lib.hid (Poke_a a x w h hBw ha)
    clear h
    go_enter Tryz.func280, Tryz.ntmps280
    go_wp2_with ((go_at_call 108; with_reducible refine HP.out.mono ?_; rintro e w1 ⟨rfl, h1⟩))
    go_ret
    exact ⟨rfl, h1⟩
  · rw [decide_eq_false hr, if_neg hr]
    have hr' : rom ≤ (a : Int) := by omega
    have HS := Lib.hid (RamStep.refl h)
    clear h hr
    go_enter Tryz.func280, Tryz.ntmps280
    go_wp2
    go_ret
    exact ⟨rfl, HS.out⟩
/-- Memory with the bytes l from a on. -/
def updL (m : Nat → UInt8) (a : Nat) (l : List UInt8) : Nat → UInt8 := fun k => if a ≤ k ∧ k < a + l.length then l.getD (k - a) 0 else m k
theorem updL_nil (m : Nat → UInt8) (a : Nat) : updL m a [] = m := by
  funext k
  unfold updL
  rw [if_neg (by simp)]
theorem updL_take (m : Nat → UInt8) (a : Nat) (l : List UInt8) (k : Nat) (x : UInt8) (h : l[k]? = some x) : updL m a (l.take (k + 1)) = upd (updL m a (l.take k)) (a + k) x := by
  obtain ⟨hk, rfl⟩ := List.getElem?_eq_some_iff.1 h
  funext q
  unfold upd updL
  simp only [List.length_take, List.getD_eq_getElem?_getD, List.getElem?_take]
  by_cases hq : q = a + k
  · subst hq
    rw [if_pos ⟨by omega, by omega⟩, if_pos rfl, if_pos (by omega), show a + k - a = k by omega, List.getElem?_eq_getElem hk]
    rfl
  · rw [if_neg hq]
    by_cases h1 : a ≤ q ∧ q < a + min k l.length
    · rw [if_pos h1, if_pos ⟨by omega, by omega⟩, if_pos (by omega), if_pos (by omega)]
    · rw [if_neg h1, if_neg (by omega)]
set_option maxRecDepth 100000 in
set_option maxHeartbeats 4000000 in
theorem Load_any {B g : Nat} {m : Nat → UInt8} {rom : Int} {pb : Nat → Option Nat} {cs : Array Value} (a : Nat) (l : List UInt8) (A : Option Addr) (n c : Nat) (w : World) (h : RamAt B g m rom pb cs w) (hBw : B ≤ w.heap.size) (hr : Reads w B 1 A n (bytesV l)) (ha : a + n ≤ 65536) :
    Calls Tryz.prog 68 #[.pointer (some ⟨g, 0, none⟩), .int .i64 (a : Int), .slice A n c] w fun e w' => e = .returned (.int .i64 0) ∧ RamStep B g (updL m a l) rom pb w w' := by
  have hln : l.length = n := by simpa [bytesV] using hr.1
  have HLN := Lib.hid hln
  have HH := Lib.hid h
  clear hln h
  have ha0 : (0 : Int) ≤ (a : Int) := by omega
  have ha1 : (a : Int) ≤ 65536 := by omega
  have ha2 : (n : Int) ≤ 65536 - (a : Int) := by omega
  go_enter Tryz.func68, Tryz.ntmps68
  go_wp2
  go_loopw [24] (fun i wr => ∃ k : Nat, k ≤ n ∧ i = .int .i64 k ∧ RamStep B g (updL m a (l.take k)) rom pb w wr) (fun i _ => n - (intOf i).toNat)
  case atStart => exact ⟨0, by omega, rfl, by rw [List.take_zero, updL_nil]; exact RamStep.refl HH.out⟩
  case round =>
    obtain ⟨k, hk, rfl, hst⟩ := hrel
    by_cases hlt : k < n
    · obtain ⟨ad, u, rfl, hab, hu, hcell⟩ := hr.at_ hlt
      obtain ⟨x, hx, rfl⟩ := bytesV_get l k u hu
      have hcell' := (hst.below.cell (p := ad.add k) (by rw [block_of_add]; exact hab)).trans hcell
      have HT := Lib.hid (updL_take m a l k x hx)
      have hlt' : (k : Int) < (n : Int) := by omega
      have HPK : Hid (∀ pb' cs', RamAt B g (updL m a (l.take k)) rom pb' cs' wr → Calls Tryz.prog 108 #[.pointer (some ⟨g, 0, none⟩), .int .u16 ((a : Int) + (k : Int)), .int .u8 (x.toNat : Int)] wr fun e w' => e = .returned (.tuple #[]) ∧ RamStep B g (updL m a (l.take (k + 1))) rom pb' wr w') := fun pb' cs' hR => by
        have h1 := Poke_a (a + k) x wr hR (Nat.le_trans hBw hst.only.size) (by omega)
        rw [← HT.out] at h1
        rw [show ((a : Int) + (k : Int)) = ((a + k : Nat) : Int) by omega]
        exact h1
      have hak : (a : Int) + (k : Int) < 65536 := by omega
      have HST := Lib.hid hst
      obtain ⟨pb1, cs1, hR1, hsub⟩ := hst.ram
      clear hu hx hcell HT hst
      have HR1 := Lib.hid hR1
      clear hR1
      go_wp2_with ((go_at_call 108; refine (HPK.out pb1 cs1 HR1.out).mono ?_; rintro e w1 ⟨rfl, h1⟩))
      go_roundw
      case rel =>
        refine ⟨k + 1, by omega, by go_num, ?_⟩
        obtain ⟨⟨pb2, cs2, hr2, hsub2⟩, ho2, hb2⟩ := h1
        have ho1 := HST.out.only
        refine ⟨⟨pb2, cs2, hr2, fun i b hi e => ?_⟩, ⟨ho2.os.trans ho1.os, ho2.tape.trans ho1.tape, ho2.output.trans ho1.output, Nat.le_trans ho1.size ho2.size, fun q hq hqg hqp => ?_⟩, HST.out.below.trans hb2⟩
        · rcases hsub2 i b hi e with e1 | e1
          · exact hsub i b hi e1
          · exact .inr (Nat.le_trans ho1.size e1)
        · refine (ho2.block q (Nat.lt_of_lt_of_le hq ho1.size) hqg fun i hi e => ?_).trans (ho1.block q hq hqg hqp)
          rcases hsub i q hi e with e1 | e1
          · exact hqp i hi e1
          · omega
      case measure => simp [intOf]; omega
    · obtain rfl : k = n := by omega
      have hall : l.take k = l := List.take_of_length_le (by rw [HLN.out]; exact Nat.le_refl _)
      rw [hall] at hst
      clear hall
      go_wp2
      go_ret
      exact ⟨rfl, hst⟩
end Go.Proofs.YtkdaphkpllgmbaaGreat
namespace Go.Proofs.YtkdaphkpllgmbaaGreat
open Go.RowKit
def with1 (on : Bool) (cc b : Int) : Int := if on then Go.bits .or .u8 cc b else Go.bits .andNot .u8 cc b
def withL (on : Bool) (cc : Int) (l : List UInt8) : Int := l.foldl (fun c b => with1 on c (b.toNat : Int)) cc
theorem withL_take (on : Bool) (cc : Int) (l : List UInt8) (k : Nat) (c : UInt8) (h : l[k]? = some c) : withL on cc (l.take (k + 1)) = with1 on (withL on cc (l.take k)) (c.toNat : Int) := by
  obtain ⟨hk, rfl⟩ := List.getElem?_eq_some_iff.1 h
  rw [List.take_succ_eq_append_getElem hk, withL, List.foldl_append]
  rfl
set_option maxRecDepth 100000 in
set_option maxHeartbeats 2000000 in
theorem With_any (cc : Int) (on : Bool) (l : List UInt8) (A : Option Addr) (n c B : Nat) (w : World) (hr : Reads w B 1 A n (bytesV l)) (hn : n ≤ 1048576) :
    Calls Tryz.prog 137 #[.int .u8 cc, .bool on, .slice A n c] w fun e w' => e = .returned (.int .u8 (withL on cc l)) ∧ w = w' := by
  have hln : l.length = n := by simpa [bytesV] using hr.1
  have HLN := Lib.hid hln
  clear hln
  go_enter Tryz.func137, Tryz.ntmps137
  go_wp2
  go_loop [0, 11] (fun a i => ∃ k : Nat, k ≤ n ∧ i = .int .i64 k ∧ a = .int .u8 (withL on cc (l.take k))) (fun _ i => n - (intOf i).toNat)
  case atStart => exact ⟨0, by omega, rfl, rfl⟩
  case round =>
    obtain ⟨k, hk, rfl, rfl⟩ := hrel
    by_cases hlt : k < n
    · obtain ⟨ad, u, rfl, hab, hu, hcell⟩ := hr.at_ hlt
      obtain ⟨c, hx, rfl⟩ := bytesV_get l k u hu
      have HT := Lib.hid (withL_take on cc l k c hx)
      have hc2 := c.toNat_lt
      clear hu hx
      generalize ho : withL on cc (l.take k) = o at *
      have HO := Lib.hid ho
      clear ho
      cases on with
      | true =>
        go_wp2
        go_round
        case rel => exact ⟨k + 1, by omega, by go_num, by rw [HT.out]; rfl⟩
        case measure => simp [intOf]; omega
      | false =>
        go_wp2
        go_round
        case rel => exact ⟨k + 1, by omega, by go_num, by rw [HT.out]; rfl⟩
        case measure => simp [intOf]; omega
    · obtain rfl : k = n := by omega
      have hall : l.take k = l := List.take_of_length_le (by rw [HLN.out]; exact Nat.le_refl _)
      rw [hall] at *
      clear hall
      go_wp2
      go_ret
      exact ⟨rfl, rfl⟩
def hasL (cc : Int) (l : List UInt8) : Bool := l.all fun b => Go.bits .and .u8 cc (b.toNat : Int) == (b.toNat : Int)
theorem hasL_take (cc : Int) (l : List UInt8) (k : Nat) (c : UInt8) (h : l[k]? = some c) : hasL cc (l.take (k + 1)) = (hasL cc (l.take k) && (Go.bits .and .u8 cc (c.toNat : Int) == (c.toNat : Int))) := by
  obtain ⟨hk, rfl⟩ := List.getElem?_eq_some_iff.1 h
  rw [List.take_succ_eq_append_getElem hk, hasL, List.all_append]
  simp [hasL]
theorem hasL_of_take (cc : Int) (l : List UInt8) (k : Nat) (h : hasL cc (l.take k) = false) : hasL cc l = false := by
  rw [← List.take_append_drop k l, hasL, List.all_append]
  unfold hasL at h
  rw [h]; rfl
set_option maxRecDepth 100000 in
set_option maxHeartbeats 2000000 in
theorem Has_any (cc : Int) (l : List UInt8) (A : Option Addr) (n c B : Nat) (w : World) (hr : Reads w B 1 A n (bytesV l)) (hn : n ≤ 1048576) :
    Calls Tryz.prog 80 #[.int .u8 cc, .slice A n c] w fun e w' => e = .returned (.bool (hasL cc l)) ∧ w = w' := by
  have hln : l.length = n := by simpa [bytesV] using hr.1
  have HLN := Lib.hid hln
  clear hln
  go_enter Tryz.func80, Tryz.ntmps80
  go_wp2
  go_loop [9] (fun i => ∃ k : Nat, k ≤ n ∧ i = .int .i64 k ∧ hasL cc (l.take k) = true) (fun i => n - (intOf i).toNat)
  case atStart => exact ⟨0, by omega, rfl, rfl⟩
  case round =>
    obtain ⟨k, hk, rfl, hall⟩ := hrel
    have HA := Lib.hid hall
    clear hall
    by_cases hlt : k < n
    · obtain ⟨ad, u, rfl, hab, hu, hcell⟩ := hr.at_ hlt
      obtain ⟨c, hx, rfl⟩ := bytesV_get l k u hu
      have HT := Lib.hid (hasL_take cc l k c hx)
      have hc2 := c.toNat_lt
      clear hu hx
      by_cases hb : Go.bits .and .u8 cc (c.toNat : Int) = (c.toNat : Int)
      · have HB := Lib.hid hb
        have hb2 : (Go.bits .and .u8 cc (c.toNat : Int) != (c.toNat : Int)) = false := bne_eq_false_iff_eq.mpr hb
        clear hb
        go_wp2
        go_round
        case rel => exact ⟨k + 1, by omega, by go_num, by rw [HT.out, HA.out, HB.out]; simp⟩
        case measure => simp [intOf]; omega
      · have HB := Lib.hid hb
        have hb2 : (Go.bits .and .u8 cc (c.toNat : Int) != (c.toNat : Int)) = true := bne_iff_ne.mpr hb
        clear hb
        go_wp2
        go_ret
        exact ⟨by rw [hasL_of_take cc l (k + 1) (by rw [HT.out, HA.out]; simp [HB.out])]; rfl, rfl⟩
    · obtain rfl : k = n := by omega
      have hall : l.take k = l := List.take_of_length_le (by rw [HLN.out]; exact Nat.le_refl _)
      have HA2 := HA.out
      rw [hall] at HA2
      have HA3 := Lib.hid HA2
      clear hall HA2
      go_wp2
      go_ret
      exact ⟨by rw [HA3.out]; rfl, rfl⟩
theorem byte_lit (b : Int) (h0 : 0 ≤ b) (h1 : b < 256) : ∃ c : UInt8, b = (c.toNat : Int) := ⟨UInt8.ofNat b.toNat, by rw [UInt8.toNat_ofNat']; omega⟩
theorem With_new1 (cc : Int) (on : Bool) (b : Int) (t : TypeId) (w : World) (g : Nat) (hg : w.heap.size = g) (h0 : (0 : Int) ≤ b ∧ b < 256) :
    Calls Tryz.prog 137 #[.int .u8 cc, .bool on, .slice (some ⟨g, 0, none⟩) 1 1] (w.alloc (.cells #[.int .u8 b] t)) fun e w' => e = .returned (.int .u8 (with1 on cc b)) ∧ w.alloc (.cells #[.int .u8 b] t) = w' := by
  subst hg
  obtain ⟨c, rfl⟩ := byte_lit b h0.1 h0.2
  exact With_any cc on [c] _ 1 1 _ _ (Reads.new1 w t #[.int .u8 c.toNat] 1 (w.heap.size + 1) rfl (by omega)) (by omega)
theorem With_new2 (cc : Int) (on : Bool) (b d : Int) (t : TypeId) (w : World) (g : Nat) (hg : w.heap.size = g) (h0 : ((0 : Int) ≤ b ∧ b < 256) ∧ (0 : Int) ≤ d ∧ d < 256) :
    Calls Tryz.prog 137 #[.int .u8 cc, .bool on, .slice (some ⟨g, 0, none⟩) 2 2] (w.alloc (.cells #[.int .u8 b, .int .u8 d] t)) fun e w' => e = .returned (.int .u8 (with1 on (with1 on cc b) d)) ∧ w.alloc (.cells #[.int .u8 b, .int .u8 d] t) = w' := by
  subst hg
  obtain ⟨c, rfl⟩ := byte_lit b h0.1.1 h0.1.2
  obtain ⟨f, rfl⟩ := byte_lit d h0.2.1 h0.2.2
  exact With_any cc on [c, f] _ 2 2 _ _ (Reads.new1 w t #[.int .u8 c.toNat, .int .u8 f.toNat] 2 (w.heap.size + 1) rfl (by omega)) (by omega)
theorem Has_new1 (cc : Int) (b : Int) (t : TypeId) (w : World) (g : Nat) (hg : w.heap.size = g) (h0 : (0 : Int) ≤ b ∧ b < 256) :
    Calls Tryz.prog 80 #[.int .u8 cc, .slice (some ⟨g, 0, none⟩) 1 1] (w.alloc (.cells #[.int .u8 b] t)) fun e w' => e = .returned (.bool (Go.bits .and .u8 cc b == b)) ∧ w.alloc (.cells #[.int .u8 b] t) = w' := by
  subst hg
  obtain ⟨c, rfl⟩ := byte_lit b h0.1 h0.2
  refine (Has_any cc [c] _ 1 1 _ _ (Reads.new1 w t #[.int .u8 c.toNat] 1 (w.heap.size + 1) rfl (by omega)) (by omega)).mono ?_
  rintro e w' ⟨rfl, rfl⟩
  exact ⟨by simp [hasL], rfl⟩
end Go.Proofs.YtkdaphkpllgmbaaGreat
namespace Go.Proofs.YtkdaphkpllgmbaaGreat
open Go.RowKit
def nz (cc : Int) (r : Int) : Int := with1 (r == 0) (with1 (Go.bits .and .u8 r 128 != 0) cc 8) 4
set_option maxRecDepth 100000 in
theorem nz_any (cc : Int) (r : Int) (w : World) :
    Calls Tryz.prog 251 #[.int .u8 cc, .int .u8 r] w fun e w' => e = .returned (.int .u8 (nz cc r)) ∧ Below w.heap.size w w' := by
  go_enter Tryz.func251, Tryz.ntmps251
  go_wp2_with (go_at_call 137; refine (With_new1 _ _ _ _ _ _ ?hg ?hb).mono ?_; (case hg => first | rfl | (simp; done)); (case hb => decide); rintro e w1 ⟨rfl, rfl⟩)
  go_ret
  exact ⟨rfl, by repeat (first | exact Below.refl _ _ | apply below_alloc | apply Below.drew | (refine below_then ?_ (by assumption)))⟩
def nzw (cc : Int) (r : Int) : Int := with1 (r == 0) (with1 (Go.bits .and .u16 r 32768 != 0) cc 8) 4
set_option maxRecDepth 100000 in
theorem nzw_any (cc : Int) (r : Int) (w : World) :
    Calls Tryz.prog 237 #[.int .u8 cc, .int .u16 r] w fun e w' => e = .returned (.int .u8 (nzw cc r)) ∧ Below w.heap.size w w' := by
  go_enter Tryz.func237, Tryz.ntmps237
  go_wp2_with (go_at_call 137; refine (With_new1 _ _ _ _ _ _ ?hg ?hb).mono ?_; (case hg => first | rfl | (simp; done)); (case hb => decide); rintro e w1 ⟨rfl, rfl⟩)
  go_ret
  exact ⟨rfl, by repeat (first | exact Below.refl _ _ | apply below_alloc | apply Below.drew | (refine below_then ?_ (by assumption)))⟩
def told (cc : Int) (r : Int) : Int := nz (with1 false cc 2) r
set_option maxRecDepth 100000 in
theorem told_any (cc : Int) (r : Int) (w : World) :
    Calls Tryz.prog 236 #[.int .u8 cc, .int .u8 r] w fun e w' => e = .returned (.int .u8 (told cc r)) ∧ Below w.heap.size w w' := by
  go_enter Tryz.func236, Tryz.ntmps236
  go_wp2_with (first | (go_at_call 137; refine (With_new1 _ _ _ _ _ _ ?hg ?hb).mono ?_; (case hg => first | rfl | (simp; done)); (case hb => decide); rintro e w1 ⟨rfl, rfl⟩) | (go_at_call 251; refine (nz_any _ _ _).mono ?_; rintro e w1 ⟨rfl, hb⟩))
  go_ret
  exact ⟨rfl, by repeat (first | exact Below.refl _ _ | apply below_alloc | apply Below.drew | (refine below_then ?_ (by assumption)))⟩
def logicAnd (a : Int) (b : Int) (cc : Int) : Int × Int := (Go.bits .and .u8 a b, told cc (Go.bits .and .u8 a b))
set_option maxRecDepth 100000 in
theorem logicAnd_any (a : Int) (b : Int) (cc : Int) (w : World) :
    Calls Tryz.prog 241 #[.int .u8 a, .int .u8 b, .int .u8 cc] w fun e w' => e = .returned (.tuple #[.int .u8 (logicAnd a b cc).1, .int .u8 (logicAnd a b cc).2]) ∧ Below w.heap.size w w' := by
  go_enter Tryz.func241, Tryz.ntmps241
  go_wp2_with (go_at_call 236; refine (told_any _ _ _).mono ?_; rintro e w1 ⟨rfl, hb⟩)
  go_ret2
  exact ⟨rfl, by repeat (first | exact Below.refl _ _ | apply below_alloc | apply Below.drew | (refine below_then ?_ (by assumption)))⟩
def logicOr (a : Int) (b : Int) (cc : Int) : Int × Int := (Go.bits .or .u8 a b, told cc (Go.bits .or .u8 a b))
set_option maxRecDepth 100000 in
theorem logicOr_any (a : Int) (b : Int) (cc : Int) (w : World) :
    Calls Tryz.prog 245 #[.int .u8 a, .int .u8 b, .int .u8 cc] w fun e w' => e = .returned (.tuple #[.int .u8 (logicOr a b cc).1, .int .u8 (logicOr a b cc).2]) ∧ Below w.heap.size w w' := by
  go_enter Tryz.func245, Tryz.ntmps245
  go_wp2_with (go_at_call 236; refine (told_any _ _ _).mono ?_; rintro e w1 ⟨rfl, hb⟩)
  go_ret2
  exact ⟨rfl, by repeat (first | exact Below.refl _ _ | apply below_alloc | apply Below.drew | (refine below_then ?_ (by assumption)))⟩
def logicEor (a : Int) (b : Int) (cc : Int) : Int × Int := (Go.bits .xor .u8 a b, told cc (Go.bits .xor .u8 a b))
set_option maxRecDepth 100000 in
theorem logicEor_any (a : Int) (b : Int) (cc : Int) (w : World) :
    Calls Tryz.prog 244 #[.int .u8 a, .int .u8 b, .int .u8 cc] w fun e w' => e = .returned (.tuple #[.int .u8 (logicEor a b cc).1, .int .u8 (logicEor a b cc).2]) ∧ Below w.heap.size w w' := by
  go_enter Tryz.func244, Tryz.ntmps244
  go_wp2_with (go_at_call 236; refine (told_any _ _ _).mono ?_; rintro e w1 ⟨rfl, hb⟩)
  go_ret2
  exact ⟨rfl, by repeat (first | exact Below.refl _ _ | apply below_alloc | apply Below.drew | (refine below_then ?_ (by assumption)))⟩
def logicBit (a : Int) (b : Int) (cc : Int) : Int := told cc (Go.bits .and .u8 a b)
set_option maxRecDepth 100000 in
theorem logicBit_any (a : Int) (b : Int) (cc : Int) (w : World) :
    Calls Tryz.prog 242 #[.int .u8 a, .int .u8 b, .int .u8 cc] w fun e w' => e = .returned (.int .u8 (logicBit a b cc)) ∧ Below w.heap.size w w' := by
  go_enter Tryz.func242, Tryz.ntmps242
  go_wp2_with (go_at_call 236; refine (told_any _ _ _).mono ?_; rintro e w1 ⟨rfl, hb⟩)
  go_ret
  exact ⟨rfl, by repeat (first | exact Below.refl _ _ | apply below_alloc | apply Below.drew | (refine below_then ?_ (by assumption)))⟩
def logicTst (a : Int) (cc : Int) : Int := told cc a
set_option maxRecDepth 100000 in
theorem logicTst_any (a : Int) (cc : Int) (w : World) :
    Calls Tryz.prog 200 #[.int .u8 a, .int .u8 cc] w fun e w' => e = .returned (.int .u8 (logicTst a cc)) ∧ Below w.heap.size w w' := by
  go_enter Tryz.func200, Tryz.ntmps200
  go_wp2_with (go_at_call 236; refine (told_any _ _ _).mono ?_; rintro e w1 ⟨rfl, hb⟩)
  go_ret
  exact ⟨rfl, by repeat (first | exact Below.refl _ _ | apply below_alloc | apply Below.drew | (refine below_then ?_ (by assumption)))⟩
def logicCom (a : Int) (cc : Int) : Int × Int := (Go.bits .xor .u8 IntKind.u8.max a, with1 true (told cc (Go.bits .xor .u8 IntKind.u8.max a)) 1)
set_option maxRecDepth 100000 in
theorem logicCom_any (a : Int) (cc : Int) (w : World) :
    Calls Tryz.prog 205 #[.int .u8 a, .int .u8 cc] w fun e w' => e = .returned (.tuple #[.int .u8 (logicCom a cc).1, .int .u8 (logicCom a cc).2]) ∧ Below w.heap.size w w' := by
  go_enter Tryz.func205, Tryz.ntmps205
  go_wp2_with (first | (go_at_call 236; refine (told_any _ _ _).mono ?_; rintro e w1 ⟨rfl, hb⟩) | (go_at_call 137; refine (With_new1 _ _ _ _ _ _ ?hg ?hb).mono ?_; (case hg => first | rfl | (simp; done)); (case hb => decide); rintro e w1 ⟨rfl, rfl⟩))
  go_ret2
  exact ⟨rfl, by repeat (first | exact Below.refl _ _ | apply below_alloc | apply Below.drew | (refine below_then ?_ (by assumption)))⟩
def logicClr (cc : Int) : Int × Int := (0, with1 false (told cc 0) 1)
set_option maxRecDepth 100000 in
theorem logicClr_any (cc : Int) (w : World) :
    Calls Tryz.prog 213 #[.int .u8 cc] w fun e w' => e = .returned (.tuple #[.int .u8 (logicClr cc).1, .int .u8 (logicClr cc).2]) ∧ Below w.heap.size w w' := by
  go_enter Tryz.func213, Tryz.ntmps213
  go_wp2_with (first | (go_at_call 236; refine (told_any _ _ _).mono ?_; rintro e w1 ⟨rfl, hb⟩) | (go_at_call 137; refine (With_new1 _ _ _ _ _ _ ?hg ?hb).mono ?_; (case hg => first | rfl | (simp; done)); (case hb => decide); rintro e w1 ⟨rfl, rfl⟩))
  go_ret2
  exact ⟨rfl, by repeat (first | exact Below.refl _ _ | apply below_alloc | apply Below.drew | (refine below_then ?_ (by assumption)))⟩
def add16 (a b c : Int) : Int := IntKind.u16.wrap (IntKind.u16.wrap (IntKind.u16.wrap a + IntKind.u16.wrap b) + IntKind.u16.wrap c)
def sub16 (a b c : Int) : Int := IntKind.u16.wrap (IntKind.u16.wrap (IntKind.u16.wrap a - IntKind.u16.wrap b) - IntKind.u16.wrap c)
def adder (a : Int) (b : Int) (c : Int) (cc : Int) : Int × Int := (add16 a b c % 256, nz (with1 (decide (add16 a b c > 255)) (with1 (Go.bits .and .u8 (Go.bits .and .u8 (Go.bits .xor .u8 a (add16 a b c % 256)) (Go.bits .xor .u8 b (add16 a b c % 256))) 128 != 0) (with1 (Go.bits .and .u8 (Go.bits .xor .u8 (Go.bits .xor .u8 a b) (add16 a b c % 256)) 16 != 0) cc 32) 2) 1) (add16 a b c % 256))
set_option maxRecDepth 100000 in
theorem adder_any (a : Int) (b : Int) (c : Int) (cc : Int) (w : World) :
    Calls Tryz.prog 261 #[.int .u8 a, .int .u8 b, .int .u8 c, .int .u8 cc] w fun e w' => e = .returned (.tuple #[.int .u8 (adder a b c cc).1, .int .u8 (adder a b c cc).2]) ∧ Below w.heap.size w w' := by
  go_enter Tryz.func261, Tryz.ntmps261
  go_wp2_with (first | (go_at_call 137; refine (With_new1 _ _ _ _ _ _ ?hg ?hb).mono ?_; (case hg => first | rfl | (simp; done)); (case hb => decide); rintro e w1 ⟨rfl, rfl⟩) | (go_at_call 251; refine (nz_any _ _ _).mono ?_; rintro e w1 ⟨rfl, hb⟩))
  go_ret2
  exact ⟨rfl, by repeat (first | exact Below.refl _ _ | apply below_alloc | apply Below.drew | (refine below_then ?_ (by assumption)))⟩
def adderAdd (a : Int) (b : Int) (cc : Int) : Int × Int := adder a b 0 cc
set_option maxRecDepth 100000 in
theorem adderAdd_any (a : Int) (b : Int) (cc : Int) (w : World) :
    Calls Tryz.prog 240 #[.int .u8 a, .int .u8 b, .int .u8 cc] w fun e w' => e = .returned (.tuple #[.int .u8 (adderAdd a b cc).1, .int .u8 (adderAdd a b cc).2]) ∧ Below w.heap.size w w' := by
  go_enter Tryz.func240, Tryz.ntmps240
  go_wp2_with (go_at_call 261; refine (adder_any _ _ _ _ _).mono ?_; rintro e w1 ⟨rfl, hb⟩)
  go_ret2
  exact ⟨rfl, by repeat (first | exact Below.refl _ _ | apply below_alloc | apply Below.drew | (refine below_then ?_ (by assumption)))⟩
def adderAdc (a : Int) (b : Int) (cc : Int) : Int × Int := adder a b (Go.bits .and .u8 cc 1) cc
set_option maxRecDepth 100000 in
theorem adderAdc_any (a : Int) (b : Int) (cc : Int) (w : World) :
    Calls Tryz.prog 239 #[.int .u8 a, .int .u8 b, .int .u8 cc] w fun e w' => e = .returned (.tuple #[.int .u8 (adderAdc a b cc).1, .int .u8 (adderAdc a b cc).2]) ∧ Below w.heap.size w w' := by
  go_enter Tryz.func239, Tryz.ntmps239
  go_wp2_with (go_at_call 261; refine (adder_any _ _ _ _ _).mono ?_; rintro e w1 ⟨rfl, hb⟩)
  go_ret2
  exact ⟨rfl, by repeat (first | exact Below.refl _ _ | apply below_alloc | apply Below.drew | (refine below_then ?_ (by assumption)))⟩
def taker (a : Int) (b : Int) (c : Int) (cc : Int) : Int × Int := (sub16 a b c % 256, nz (with1 (decide (sub16 a b c > 255)) (with1 (Go.bits .and .u8 (Go.bits .and .u8 (Go.bits .xor .u8 a b) (Go.bits .xor .u8 a (sub16 a b c % 256))) 128 != 0) cc 2) 1) (sub16 a b c % 256))
set_option maxRecDepth 100000 in
theorem taker_any (a : Int) (b : Int) (c : Int) (cc : Int) (w : World) :
    Calls Tryz.prog 248 #[.int .u8 a, .int .u8 b, .int .u8 c, .int .u8 cc] w fun e w' => e = .returned (.tuple #[.int .u8 (taker a b c cc).1, .int .u8 (taker a b c cc).2]) ∧ Below w.heap.size w w' := by
  go_enter Tryz.func248, Tryz.ntmps248
  go_wp2_with (first | (go_at_call 137; refine (With_new1 _ _ _ _ _ _ ?hg ?hb).mono ?_; (case hg => first | rfl | (simp; done)); (case hb => decide); rintro e w1 ⟨rfl, rfl⟩) | (go_at_call 251; refine (nz_any _ _ _).mono ?_; rintro e w1 ⟨rfl, hb⟩))
  go_ret2
  exact ⟨rfl, by repeat (first | exact Below.refl _ _ | apply below_alloc | apply Below.drew | (refine below_then ?_ (by assumption)))⟩
def takerSub (a : Int) (b : Int) (cc : Int) : Int × Int := taker a b 0 cc
set_option maxRecDepth 100000 in
theorem takerSub_any (a : Int) (b : Int) (cc : Int) (w : World) :
    Calls Tryz.prog 247 #[.int .u8 a, .int .u8 b, .int .u8 cc] w fun e w' => e = .returned (.tuple #[.int .u8 (takerSub a b cc).1, .int .u8 (takerSub a b cc).2]) ∧ Below w.heap.size w w' := by
  go_enter Tryz.func247, Tryz.ntmps247
  go_wp2_with (go_at_call 248; refine (taker_any _ _ _ _ _).mono ?_; rintro e w1 ⟨rfl, hb⟩)
  go_ret2
  exact ⟨rfl, by repeat (first | exact Below.refl _ _ | apply below_alloc | apply Below.drew | (refine below_then ?_ (by assumption)))⟩
def takerSbc (a : Int) (b : Int) (cc : Int) : Int × Int := taker a b (Go.bits .and .u8 cc 1) cc
set_option maxRecDepth 100000 in
theorem takerSbc_any (a : Int) (b : Int) (cc : Int) (w : World) :
    Calls Tryz.prog 246 #[.int .u8 a, .int .u8 b, .int .u8 cc] w fun e w' => e = .returned (.tuple #[.int .u8 (takerSbc a b cc).1, .int .u8 (takerSbc a b cc).2]) ∧ Below w.heap.size w w' := by
  go_enter Tryz.func246, Tryz.ntmps246
  go_wp2_with (go_at_call 248; refine (taker_any _ _ _ _ _).mono ?_; rintro e w1 ⟨rfl, hb⟩)
  go_ret2
  exact ⟨rfl, by repeat (first | exact Below.refl _ _ | apply below_alloc | apply Below.drew | (refine below_then ?_ (by assumption)))⟩
def takerCmp (a : Int) (b : Int) (cc : Int) : Int := (taker a b 0 cc).2
set_option maxRecDepth 100000 in
theorem takerCmp_any (a : Int) (b : Int) (cc : Int) (w : World) :
    Calls Tryz.prog 243 #[.int .u8 a, .int .u8 b, .int .u8 cc] w fun e w' => e = .returned (.int .u8 (takerCmp a b cc)) ∧ Below w.heap.size w w' := by
  go_enter Tryz.func243, Tryz.ntmps243
  go_wp2_with (go_at_call 248; refine (taker_any _ _ _ _ _).mono ?_; rintro e w1 ⟨rfl, hb⟩)
  go_ret
  exact ⟨rfl, by repeat (first | exact Below.refl _ _ | apply below_alloc | apply Below.drew | (refine below_then ?_ (by assumption)))⟩
def takerNeg (a : Int) (cc : Int) : Int × Int := taker 0 a 0 cc
set_option maxRecDepth 100000 in
theorem takerNeg_any (a : Int) (cc : Int) (w : World) :
    Calls Tryz.prog 204 #[.int .u8 a, .int .u8 cc] w fun e w' => e = .returned (.tuple #[.int .u8 (takerNeg a cc).1, .int .u8 (takerNeg a cc).2]) ∧ Below w.heap.size w w' := by
  go_enter Tryz.func204, Tryz.ntmps204
  go_wp2_with (go_at_call 248; refine (taker_any _ _ _ _ _).mono ?_; rintro e w1 ⟨rfl, hb⟩)
  go_ret2
  exact ⟨rfl, by repeat (first | exact Below.refl _ _ | apply below_alloc | apply Below.drew | (refine below_then ?_ (by assumption)))⟩
def shiftR (a : Int) (t : Int) (cc : Int) : Int × Int := (Go.bits .or .u8 (a / 2) t, with1 (Go.bits .and .u8 a 1 != 0) (nz cc (Go.bits .or .u8 (a / 2) t)) 1)
set_option maxRecDepth 100000 in
theorem shiftR_any (a : Int) (t : Int) (cc : Int) (w : World) :
    Calls Tryz.prog 249 #[.int .u8 a, .int .u8 t, .int .u8 cc] w fun e w' => e = .returned (.tuple #[.int .u8 (shiftR a t cc).1, .int .u8 (shiftR a t cc).2]) ∧ Below w.heap.size w w' := by
  go_enter Tryz.func249, Tryz.ntmps249
  go_wp2_with (first | (go_at_call 137; refine (With_new1 _ _ _ _ _ _ ?hg ?hb).mono ?_; (case hg => first | rfl | (simp; done)); (case hb => decide); rintro e w1 ⟨rfl, rfl⟩) | (go_at_call 251; refine (nz_any _ _ _).mono ?_; rintro e w1 ⟨rfl, hb⟩))
  go_ret2
  exact ⟨rfl, by repeat (first | exact Below.refl _ _ | apply below_alloc | apply Below.drew | (refine below_then ?_ (by assumption)))⟩
def shiftL (a : Int) (l : Int) (cc : Int) : Int × Int := (Go.bits .or .u8 ((a * 2) % 256) l, with1 (Go.bits .and .u8 a 128 != 0) (with1 (Go.bits .and .u8 (Go.bits .xor .u8 a (Go.bits .or .u8 ((a * 2) % 256) l)) 128 != 0) (nz cc (Go.bits .or .u8 ((a * 2) % 256) l)) 2) 1)
set_option maxRecDepth 100000 in
theorem shiftL_any (a : Int) (l : Int) (cc : Int) (w : World) :
    Calls Tryz.prog 250 #[.int .u8 a, .int .u8 l, .int .u8 cc] w fun e w' => e = .returned (.tuple #[.int .u8 (shiftL a l cc).1, .int .u8 (shiftL a l cc).2]) ∧ Below w.heap.size w w' := by
  go_enter Tryz.func250, Tryz.ntmps250
  go_wp2_with (first | (go_at_call 137; refine (With_new1 _ _ _ _ _ _ ?hg ?hb).mono ?_; (case hg => first | rfl | (simp; done)); (case hb => decide); rintro e w1 ⟨rfl, rfl⟩) | (go_at_call 251; refine (nz_any _ _ _).mono ?_; rintro e w1 ⟨rfl, hb⟩))
  go_ret2
  exact ⟨rfl, by repeat (first | exact Below.refl _ _ | apply below_alloc | apply Below.drew | (refine below_then ?_ (by assumption)))⟩
def shiftLsr (a : Int) (cc : Int) : Int × Int := shiftR a 0 cc
set_option maxRecDepth 100000 in
theorem shiftLsr_any (a : Int) (cc : Int) (w : World) :
    Calls Tryz.prog 206 #[.int .u8 a, .int .u8 cc] w fun e w' => e = .returned (.tuple #[.int .u8 (shiftLsr a cc).1, .int .u8 (shiftLsr a cc).2]) ∧ Below w.heap.size w w' := by
  go_enter Tryz.func206, Tryz.ntmps206
  go_wp2_with (go_at_call 249; refine (shiftR_any _ _ _ _).mono ?_; rintro e w1 ⟨rfl, hb⟩)
  go_ret2
  exact ⟨rfl, by repeat (first | exact Below.refl _ _ | apply below_alloc | apply Below.drew | (refine below_then ?_ (by assumption)))⟩
def shiftAsr (a : Int) (cc : Int) : Int × Int := shiftR a (Go.bits .and .u8 a 128) cc
set_option maxRecDepth 100000 in
theorem shiftAsr_any (a : Int) (cc : Int) (w : World) :
    Calls Tryz.prog 208 #[.int .u8 a, .int .u8 cc] w fun e w' => e = .returned (.tuple #[.int .u8 (shiftAsr a cc).1, .int .u8 (shiftAsr a cc).2]) ∧ Below w.heap.size w w' := by
  go_enter Tryz.func208, Tryz.ntmps208
  go_wp2_with (go_at_call 249; refine (shiftR_any _ _ _ _).mono ?_; rintro e w1 ⟨rfl, hb⟩)
  go_ret2
  exact ⟨rfl, by repeat (first | exact Below.refl _ _ | apply below_alloc | apply Below.drew | (refine below_then ?_ (by assumption)))⟩
def shiftRor (a : Int) (cc : Int) : Int × Int := shiftR a (((Go.bits .and .u8 cc 1) * 128) % 256) cc
set_option maxRecDepth 100000 in
theorem shiftRor_any (a : Int) (cc : Int) (w : World) :
    Calls Tryz.prog 207 #[.int .u8 a, .int .u8 cc] w fun e w' => e = .returned (.tuple #[.int .u8 (shiftRor a cc).1, .int .u8 (shiftRor a cc).2]) ∧ Below w.heap.size w w' := by
  go_enter Tryz.func207, Tryz.ntmps207
  go_wp2_with (go_at_call 249; refine (shiftR_any _ _ _ _).mono ?_; rintro e w1 ⟨rfl, hb⟩)
  go_ret2
  exact ⟨rfl, by repeat (first | exact Below.refl _ _ | apply below_alloc | apply Below.drew | (refine below_then ?_ (by assumption)))⟩
def shiftAsl (a : Int) (cc : Int) : Int × Int := shiftL a 0 cc
set_option maxRecDepth 100000 in
theorem shiftAsl_any (a : Int) (cc : Int) (w : World) :
    Calls Tryz.prog 209 #[.int .u8 a, .int .u8 cc] w fun e w' => e = .returned (.tuple #[.int .u8 (shiftAsl a cc).1, .int .u8 (shiftAsl a cc).2]) ∧ Below w.heap.size w w' := by
  go_enter Tryz.func209, Tryz.ntmps209
  go_wp2_with (go_at_call 250; refine (shiftL_any _ _ _ _).mono ?_; rintro e w1 ⟨rfl, hb⟩)
  go_ret2
  exact ⟨rfl, by repeat (first | exact Below.refl _ _ | apply below_alloc | apply Below.drew | (refine below_then ?_ (by assumption)))⟩
def shiftRol (a : Int) (cc : Int) : Int × Int := shiftL a (Go.bits .and .u8 cc 1) cc
set_option maxRecDepth 100000 in
theorem shiftRol_any (a : Int) (cc : Int) (w : World) :
    Calls Tryz.prog 210 #[.int .u8 a, .int .u8 cc] w fun e w' => e = .returned (.tuple #[.int .u8 (shiftRol a cc).1, .int .u8 (shiftRol a cc).2]) ∧ Below w.heap.size w w' := by
  go_enter Tryz.func210, Tryz.ntmps210
  go_wp2_with (go_at_call 250; refine (shiftL_any _ _ _ _).mono ?_; rintro e w1 ⟨rfl, hb⟩)
  go_ret2
  exact ⟨rfl, by repeat (first | exact Below.refl _ _ | apply below_alloc | apply Below.drew | (refine below_then ?_ (by assumption)))⟩
def countInc (a : Int) (cc : Int) : Int × Int := ((a + 1) % 256, nz (with1 ((a + 1) % 256 == 128) cc 2) ((a + 1) % 256))
set_option maxRecDepth 100000 in
theorem countInc_any (a : Int) (cc : Int) (w : World) :
    Calls Tryz.prog 212 #[.int .u8 a, .int .u8 cc] w fun e w' => e = .returned (.tuple #[.int .u8 (countInc a cc).1, .int .u8 (countInc a cc).2]) ∧ Below w.heap.size w w' := by
  go_enter Tryz.func212, Tryz.ntmps212
  go_wp2_with (first | (go_at_call 137; refine (With_new1 _ _ _ _ _ _ ?hg ?hb).mono ?_; (case hg => first | rfl | (simp; done)); (case hb => decide); rintro e w1 ⟨rfl, rfl⟩) | (go_at_call 251; refine (nz_any _ _ _).mono ?_; rintro e w1 ⟨rfl, hb⟩))
  go_ret2
  exact ⟨rfl, by repeat (first | exact Below.refl _ _ | apply below_alloc | apply Below.drew | (refine below_then ?_ (by assumption)))⟩
def countDec (a : Int) (cc : Int) : Int × Int := ((a - 1) % 256, nz (with1 (a == 128) cc 2) ((a - 1) % 256))
set_option maxRecDepth 100000 in
theorem countDec_any (a : Int) (cc : Int) (w : World) :
    Calls Tryz.prog 211 #[.int .u8 a, .int .u8 cc] w fun e w' => e = .returned (.tuple #[.int .u8 (countDec a cc).1, .int .u8 (countDec a cc).2]) ∧ Below w.heap.size w w' := by
  go_enter Tryz.func211, Tryz.ntmps211
  go_wp2_with (first | (go_at_call 137; refine (With_new1 _ _ _ _ _ _ ?hg ?hb).mono ?_; (case hg => first | rfl | (simp; done)); (case hb => decide); rintro e w1 ⟨rfl, rfl⟩) | (go_at_call 251; refine (nz_any _ _ _).mono ?_; rintro e w1 ⟨rfl, hb⟩))
  go_ret2
  exact ⟨rfl, by repeat (first | exact Below.refl _ _ | apply below_alloc | apply Below.drew | (refine below_then ?_ (by assumption)))⟩
def wideAdd (a : Int) (b : Int) (cc : Int) : Int × Int := (IntKind.u16.wrap (a + b), nzw (with1 (decide (IntKind.u16.wrap (a + b) < a)) (with1 (Go.bits .and .u16 (Go.bits .and .u16 (Go.bits .xor .u16 a (IntKind.u16.wrap (a + b))) (Go.bits .xor .u16 b (IntKind.u16.wrap (a + b)))) 32768 != 0) cc 2) 1) (IntKind.u16.wrap (a + b)))
set_option maxRecDepth 100000 in
theorem wideAdd_any (a : Int) (b : Int) (cc : Int) (w : World) :
    Calls Tryz.prog 253 #[.int .u16 a, .int .u16 b, .int .u8 cc] w fun e w' => e = .returned (.tuple #[.int .u16 (wideAdd a b cc).1, .int .u8 (wideAdd a b cc).2]) ∧ Below w.heap.size w w' := by
  go_enter Tryz.func253, Tryz.ntmps253
  go_wp2_with (first | (go_at_call 137; refine (With_new1 _ _ _ _ _ _ ?hg ?hb).mono ?_; (case hg => first | rfl | (simp; done)); (case hb => decide); rintro e w1 ⟨rfl, rfl⟩) | (go_at_call 237; refine (nzw_any _ _ _).mono ?_; rintro e w1 ⟨rfl, hb⟩))
  go_ret2
  exact ⟨rfl, by repeat (first | exact Below.refl _ _ | apply below_alloc | apply Below.drew | (refine below_then ?_ (by assumption)))⟩
def wideSub (a : Int) (b : Int) (cc : Int) : Int × Int := (IntKind.u16.wrap (a - b), nzw (with1 (decide (a < b)) (with1 (Go.bits .and .u16 (Go.bits .and .u16 (Go.bits .xor .u16 a b) (Go.bits .xor .u16 a (IntKind.u16.wrap (a - b)))) 32768 != 0) cc 2) 1) (IntKind.u16.wrap (a - b)))
set_option maxRecDepth 100000 in
theorem wideSub_any (a : Int) (b : Int) (cc : Int) (w : World) :
    Calls Tryz.prog 254 #[.int .u16 a, .int .u16 b, .int .u8 cc] w fun e w' => e = .returned (.tuple #[.int .u16 (wideSub a b cc).1, .int .u8 (wideSub a b cc).2]) ∧ Below w.heap.size w w' := by
  go_enter Tryz.func254, Tryz.ntmps254
  go_wp2_with (first | (go_at_call 137; refine (With_new1 _ _ _ _ _ _ ?hg ?hb).mono ?_; (case hg => first | rfl | (simp; done)); (case hb => decide); rintro e w1 ⟨rfl, rfl⟩) | (go_at_call 237; refine (nzw_any _ _ _).mono ?_; rintro e w1 ⟨rfl, hb⟩))
  go_ret2
  exact ⟨rfl, by repeat (first | exact Below.refl _ _ | apply below_alloc | apply Below.drew | (refine below_then ?_ (by assumption)))⟩
def wideCmp (a : Int) (b : Int) (cc : Int) : Int := (wideSub a b cc).2
set_option maxRecDepth 100000 in
theorem wideCmp_any (a : Int) (b : Int) (cc : Int) (w : World) :
    Calls Tryz.prog 255 #[.int .u16 a, .int .u16 b, .int .u8 cc] w fun e w' => e = .returned (.int .u8 (wideCmp a b cc)) ∧ Below w.heap.size w w' := by
  go_enter Tryz.func255, Tryz.ntmps255
  go_wp2_with (go_at_call 254; refine (wideSub_any _ _ _ _).mono ?_; rintro e w1 ⟨rfl, hb⟩)
  go_ret
  exact ⟨rfl, by repeat (first | exact Below.refl _ _ | apply below_alloc | apply Below.drew | (refine below_then ?_ (by assumption)))⟩
def wideTst (a : Int) (cc : Int) : Int := nzw (with1 false cc 2) a
set_option maxRecDepth 100000 in
theorem wideTst_any (a : Int) (cc : Int) (w : World) :
    Calls Tryz.prog 201 #[.int .u16 a, .int .u8 cc] w fun e w' => e = .returned (.int .u8 (wideTst a cc)) ∧ Below w.heap.size w w' := by
  go_enter Tryz.func201, Tryz.ntmps201
  go_wp2_with (first | (go_at_call 137; refine (With_new1 _ _ _ _ _ _ ?hg ?hb).mono ?_; (case hg => first | rfl | (simp; done)); (case hb => decide); rintro e w1 ⟨rfl, rfl⟩) | (go_at_call 237; refine (nzw_any _ _ _).mono ?_; rintro e w1 ⟨rfl, hb⟩))
  go_ret
  exact ⟨rfl, by repeat (first | exact Below.refl _ _ | apply below_alloc | apply Below.drew | (refine below_then ?_ (by assumption)))⟩
def wideAbx (x : Int) (b : Int) : Int := IntKind.u16.wrap (x + IntKind.u16.wrap b)
set_option maxRecDepth 100000 in
theorem wideAbx_any (x : Int) (b : Int) (w : World) :
    Calls Tryz.prog 216 #[.int .u16 x, .int .u8 b] w fun e w' => e = .returned (.int .u16 (wideAbx x b)) ∧ Below w.heap.size w w' := by
  go_enter Tryz.func216, Tryz.ntmps216
  go_wp2
  go_ret
  exact ⟨rfl, by repeat (first | exact Below.refl _ _ | apply below_alloc | apply Below.drew | (refine below_then ?_ (by assumption)))⟩
def wideLea (x : Int) (cc : Int) : Int := with1 (x == 0) cc 4
set_option maxRecDepth 100000 in
theorem wideLea_any (x : Int) (cc : Int) (w : World) :
    Calls Tryz.prog 181 #[.int .u16 x, .int .u8 cc] w fun e w' => e = .returned (.int .u8 (wideLea x cc)) ∧ Below w.heap.size w w' := by
  go_enter Tryz.func181, Tryz.ntmps181
  go_wp2_with (go_at_call 137; refine (With_new1 _ _ _ _ _ _ ?hg ?hb).mono ?_; (case hg => first | rfl | (simp; done)); (case hb => decide); rintro e w1 ⟨rfl, rfl⟩)
  go_ret
  exact ⟨rfl, by repeat (first | exact Below.refl _ _ | apply below_alloc | apply Below.drew | (refine below_then ?_ (by assumption)))⟩
def timesMul (a : Int) (b : Int) (cc : Int) : Int × Int := (IntKind.u16.wrap (IntKind.u16.wrap a * IntKind.u16.wrap b), with1 (Go.bits .and .u16 (IntKind.u16.wrap (IntKind.u16.wrap a * IntKind.u16.wrap b)) 128 != 0) (with1 (IntKind.u16.wrap (IntKind.u16.wrap a * IntKind.u16.wrap b) == 0) cc 4) 1)
set_option maxRecDepth 100000 in
theorem timesMul_any (a : Int) (b : Int) (cc : Int) (w : World) :
    Calls Tryz.prog 219 #[.int .u8 a, .int .u8 b, .int .u8 cc] w fun e w' => e = .returned (.tuple #[.int .u16 (timesMul a b cc).1, .int .u8 (timesMul a b cc).2]) ∧ Below w.heap.size w w' := by
  go_enter Tryz.func219, Tryz.ntmps219
  go_wp2_with (go_at_call 137; refine (With_new1 _ _ _ _ _ _ ?hg ?hb).mono ?_; (case hg => first | rfl | (simp; done)); (case hb => decide); rintro e w1 ⟨rfl, rfl⟩)
  go_ret2
  exact ⟨rfl, by repeat (first | exact Below.refl _ _ | apply below_alloc | apply Below.drew | (refine below_then ?_ (by assumption)))⟩
end Go.Proofs.YtkdaphkpllgmbaaGreat
namespace Go.Proofs.YtkdaphkpllgmbaaGreat.Sp
set_option linter.unusedVariables false
/-! ### Bytes and words -/
def plusB (a b : UInt8) : UInt8 := a + b
def andB (a b : UInt8) : UInt8 := a &&& b
def orB (a b : UInt8) : UInt8 := a ||| b
def xorB (a b : UInt8) : UInt8 := a ^^^ b
def notB (a : UInt8) : UInt8 := ~~~a
def plusW (a b : UInt16) : UInt16 := a + b
def minusW (a b : UInt16) : UInt16 := a - b
def wide (b : UInt8) : UInt16 := b.toUInt16
def joinW (v : UInt16) (b : UInt8) : UInt16 := v <<< 8 ||| b.toUInt16
def hi (w : UInt16) : UInt8 := (w >>> 8).toUInt8
def lo (w : UInt16) : UInt8 := w.toUInt8
def word (h l : UInt8) : UInt16 := h.toUInt16 <<< 8 ||| l.toUInt16
def sext (b : UInt8) : UInt16 := if b < 128 then b.toUInt16 else 0xff00 ||| b.toUInt16
def sext5 (b : UInt8) : UInt16 := if b &&& 16 = 0 then (b &&& 15).toUInt16 else 0xfff0 ||| (b &&& 15).toUInt16
def bit (b : UInt8) (i : Nat) : Int := if b.toNat.testBit i then 1 else 0
def ones (b : UInt8) : Int := bit b 0 + bit b 1 + bit b 2 + bit b 3 + bit b 4 + bit b 5 + bit b 6 + bit b 7
/-! ### Flags -/
def wb (on : Bool) (cc b : UInt8) : UInt8 := if on then cc ||| b else cc &&& ~~~b
def hb (cc b : UInt8) : Bool := cc &&& b == b
def nzB (cc r : UInt8) : UInt8 := wb (r == 0) (wb (r &&& 128 != 0) cc 8) 4
def nzW (cc : UInt8) (w : UInt16) : UInt8 := wb (w == 0) (wb (w &&& 32768 != 0) cc 8) 4
def toldB (cc r : UInt8) : UInt8 := nzB (wb false cc 2) r
/-! ### Eight bits -/
def addB (a b c cc : UInt8) : UInt8 × UInt8 :=
  let d := a.toUInt16 + b.toUInt16 + c.toUInt16
  let r := d.toUInt8
  (r, nzB (wb (decide (d > 255)) (wb ((a ^^^ r) &&& (b ^^^ r) &&& 128 != 0) (wb ((a ^^^ b ^^^ r) &&& 16 != 0) cc 32) 2) 1) r)
def subB (a b c cc : UInt8) : UInt8 × UInt8 :=
  let d := a.toUInt16 - b.toUInt16 - c.toUInt16
  let r := d.toUInt8
  (r, nzB (wb (decide (d > 255)) (wb ((a ^^^ b) &&& (a ^^^ r) &&& 128 != 0) cc 2) 1) r)
def rightB (a t cc : UInt8) : UInt8 × UInt8 :=
  let r := a >>> 1 ||| t
  (r, wb (a &&& 1 != 0) (nzB cc r) 1)
def leftB (a l cc : UInt8) : UInt8 × UInt8 :=
  let r := a <<< 1 ||| l
  (r, wb (a &&& 128 != 0) (wb ((a ^^^ r) &&& 128 != 0) (nzB cc r) 2) 1)
def incB (a cc : UInt8) : UInt8 × UInt8 := (a + 1, nzB (wb (a + 1 == 128) cc 2) (a + 1))
def decB (a cc : UInt8) : UInt8 × UInt8 := (a - 1, nzB (wb (a == 128) cc 2) (a - 1))
def daaB (a cc : UInt8) : UInt8 × UInt8 :=
  let m := if decide (a &&& 15 > 9) || hb cc 32 then 6 else 0
  let carry := decide (a > 153) || hb cc 1
  let m := if carry then m ||| 96 else m
  let r := plusB a m
  (r, wb false (wb carry (nzB cc r) 1) 2)
def alu8 (op : Int) (a b cc : UInt8) : UInt8 × UInt8 × Bool :=
  if op = 2 then let x := addB a b (cc &&& 1) cc; (x.1, x.2, true)
  else if op = 3 then let x := addB a b 0 cc; (x.1, x.2, true)
  else if op = 4 then (andB a b, toldB cc (andB a b), true)
  else if op = 5 then (a, toldB cc (andB a b), false)
  else if op = 6 then (a, (subB a b 0 cc).2, false)
  else if op = 7 then (xorB a b, toldB cc (xorB a b), true)
  else if op = 8 then (orB a b, toldB cc (orB a b), true)
  else if op = 9 then let x := subB a b (cc &&& 1) cc; (x.1, x.2, true)
  else if op = 10 then let x := subB a b 0 cc; (x.1, x.2, true)
  else if op = 11 then (b, toldB cc b, true)
  else (a, cc, false)
def change (op : Int) (a cc : UInt8) : UInt8 × UInt8 × Bool :=
  if op = 13 then let x := subB 0 a 0 cc; (x.1, x.2, true)
  else if op = 14 then (notB a, wb true (toldB cc (notB a)) 1, true)
  else if op = 15 then let x := rightB a 0 cc; (x.1, x.2, true)
  else if op = 16 then let x := rightB a ((cc &&& 1) <<< 7) cc; (x.1, x.2, true)
  else if op = 17 then let x := rightB a (a &&& 128) cc; (x.1, x.2, true)
  else if op = 18 then let x := leftB a 0 cc; (x.1, x.2, true)
  else if op = 19 then let x := leftB a (cc &&& 1) cc; (x.1, x.2, true)
  else if op = 20 then let x := decB a cc; (x.1, x.2, true)
  else if op = 21 then let x := incB a cc; (x.1, x.2, true)
  else if op = 22 then (a, toldB cc a, false)
  else if op = 23 then (0, wb false (toldB cc 0) 1, true)
  else (a, cc, false)
/-! ### Words -/
def addW (a b : UInt16) (cc : UInt8) : UInt16 × UInt8 :=
  let r := a + b
  (r, nzW (wb (decide (r < a)) (wb ((a ^^^ r) &&& (b ^^^ r) &&& 32768 != 0) cc 2) 1) r)
def subW (a b : UInt16) (cc : UInt8) : UInt16 × UInt8 :=
  let r := a - b
  (r, nzW (wb (decide (a < b)) (wb ((a ^^^ b) &&& (a ^^^ r) &&& 32768 != 0) cc 2) 1) r)
def tstW (a : UInt16) (cc : UInt8) : UInt8 := nzW (wb false cc 2) a
def mulB (a b cc : UInt8) : UInt16 × UInt8 :=
  let p := a.toUInt16 * b.toUInt16
  (p, wb (p &&& 128 != 0) (wb (p == 0) cc 4) 1)
def alu16 (op : Int) (a b : UInt16) (cc : UInt8) : UInt16 × UInt8 × Bool :=
  if op = 24 then (b, tstW b cc, true)
  else if op = 26 then let x := addW a b cc; (x.1, x.2, true)
  else if op = 27 then let x := subW a b cc; (x.1, x.2, true)
  else if op = 28 then (a, (subW a b cc).2, false)
  else (a, cc, false)
/-! ### Conditions -/
def condEven (n : Int) (cc : UInt8) : Bool :=
  if n = 0 then true
  else if n = 2 then !hb cc 1 && !hb cc 4
  else if n = 4 then !hb cc 1
  else if n = 6 then !hb cc 4
  else if n = 8 then !hb cc 2
  else if n = 10 then !hb cc 8
  else if n = 12 then !(hb cc 8 != hb cc 2)
  else !(hb cc 8 != hb cc 2) && !hb cc 4
def holds (n : Int) (cc : UInt8) : Bool := decide (0 ≤ n) && decide (n < 16) && (condEven (n / 2 * 2) cc == decide (n % 2 = 0))
/-! ### Registers -/
structure Regs where
  a : UInt8
  b : UInt8
  dp : UInt8
  cc : UInt8
  x : UInt16
  y : UInt16
  u : UInt16
  s : UInt16
  pc : UInt16
deriving DecidableEq
def Regs.get (r : Regs) (c : Int) : UInt16 :=
  if c = 0 then word r.a r.b else if c = 1 then r.x else if c = 2 then r.y else if c = 3 then r.u else if c = 4 then r.s else if c = 5 then r.pc
  else if c = 8 then word 255 r.a else if c = 9 then word 255 r.b else if c = 10 then word 255 r.cc else if c = 11 then word 255 r.dp else 65535
def Regs.set (r : Regs) (c : Int) (w : UInt16) : Regs :=
  if c = 0 then { r with a := hi w, b := lo w } else if c = 1 then { r with x := w } else if c = 2 then { r with y := w } else if c = 3 then { r with u := w } else if c = 4 then { r with s := w } else if c = 5 then { r with pc := w }
  else if c = 8 then { r with a := lo w } else if c = 9 then { r with b := lo w } else if c = 10 then { r with cc := lo w } else if c = 11 then { r with dp := lo w } else r
def Regs.has (c : Int) : Bool := decide (c = 0) || decide (c = 1) || decide (c = 2) || decide (c = 3) || decide (c = 4) || decide (c = 5) || decide (c = 8) || decide (c = 9) || decide (c = 10) || decide (c = 11)
def loN (b : UInt8) : Int := ((b &&& 15).toNat : Int)
def hiN (b : UInt8) : Int := ((b >>> 4).toNat : Int)
def Regs.tfr (r : Regs) (p : UInt8) : Regs := r.set (loN p) (r.get (hiN p))
def Regs.exg (r : Regs) (p : UInt8) : Regs := (r.set (loN p) (r.get (hiN p))).set (hiN p) (r.get (loN p))
/-! ### Parts of registers -/
structure Part where
  reg : Int
  high : Bool
deriving DecidableEq
def Regs.byte (r : Regs) (p : Part) : UInt8 := if p.high then hi (r.get p.reg) else lo (r.get p.reg)
def Regs.put (r : Regs) (p : Part) (b : UInt8) : Regs := if p.high then r.set p.reg (word b (lo (r.get p.reg))) else r.set p.reg (word (hi (r.get p.reg)) b)
def off (post : UInt8) (i : Nat) : Bool := post.toNat.testBit i == false
def order (post : UInt8) (stack : Int) : List Part :=
  (if off post 0 then [] else [⟨10, false⟩]) ++ (if off post 1 then [] else [⟨8, false⟩]) ++ (if off post 2 then [] else [⟨9, false⟩]) ++ (if off post 3 then [] else [⟨11, false⟩])
  ++ (if off post 4 then [] else [⟨1, true⟩, ⟨1, false⟩]) ++ (if off post 5 then [] else [⟨2, true⟩, ⟨2, false⟩])
  ++ (if off post 6 then [] else if stack = 3 then [⟨4, true⟩, ⟨4, false⟩] else [⟨3, true⟩, ⟨3, false⟩]) ++ (if off post 7 then [] else [⟨5, true⟩, ⟨5, false⟩])
def count (post : UInt8) : Int := ones post + ones (post &&& 0xf0)
def partsOf (whole : Bool) : List Part := (order (if whole then 255 else 129) 4).reverse
/-! ### Interrupts -/
structure Enter where
  pushed : UInt8
  then_ : UInt8
  vector : UInt16
  whole : Bool
deriving DecidableEq
def frameOf (kind : Int) (cc : UInt8) : Enter × Bool :=
  let w := wb true cc 128
  if kind = 1 then (⟨w, wb true (wb true w 64) 16, 0xfffc, true⟩, true)
  else if kind = 2 then let p := wb false cc 128; (⟨p, wb true (wb true p 64) 16, 0xfff6, false⟩, true)
  else if kind = 3 then (⟨w, wb true w 16, 0xfff8, true⟩, true)
  else if kind = 5 then (⟨0, wb true (wb true cc 64) 16, 0xfffc, false⟩, true)
  else if kind = 6 then (⟨0, wb true (wb true cc 64) 16, 0xfff6, false⟩, true)
  else if kind = 7 then (⟨0, wb true cc 16, 0xfff8, false⟩, true)
  else if kind = 4 then (⟨0, wb true (wb true cc 64) 16, 0xfffe, false⟩, true)
  else (⟨0, 0, 0, false⟩, false)
def frameSoft (n : Int) (cc : UInt8) : Enter × Bool :=
  let w := wb true cc 128
  if n = 1 then (⟨w, wb true (wb true w 64) 16, 0xfffa, true⟩, true)
  else if n = 2 then (⟨w, w, 0xfff4, true⟩, true)
  else if n = 3 then (⟨w, w, 0xfff2, true⟩, true)
  else (⟨0, 0, 0, false⟩, false)
/-! ### Opcodes -/
structure Ent where
  op : Int
  mode : Int
  reg : Int
deriving DecidableEq
def pageTens (low : Int) : Ent :=
  if low = 2 then ⟨39, 0, 0⟩ else if low = 3 then ⟨40, 0, 0⟩ else if low = 6 then ⟨36, 7, 0⟩ else if low = 7 then ⟨38, 7, 0⟩ else if low = 9 then ⟨42, 0, 0⟩ else if low = 10 then ⟨43, 1, 0⟩ else if low = 12 then ⟨44, 1, 0⟩ else if low = 13 then ⟨45, 0, 0⟩ else if low = 14 then ⟨46, 8, 0⟩ else if low = 15 then ⟨47, 8, 0⟩ else ⟨0, 0, 0⟩
def pageThirties (low : Int) : Ent :=
  if low = 0 then ⟨29, 4, 1⟩ else if low = 1 then ⟨29, 4, 2⟩ else if low = 2 then ⟨29, 4, 4⟩ else if low = 3 then ⟨29, 4, 3⟩ else if low = 4 then ⟨30, 9, 4⟩ else if low = 6 then ⟨30, 9, 3⟩ else if low = 5 then ⟨31, 9, 4⟩ else if low = 7 then ⟨31, 9, 3⟩ else if low = 9 then ⟨48, 0, 0⟩ else if low = 10 then ⟨1, 0, 0⟩ else if low = 11 then ⟨49, 0, 0⟩ else if low = 12 then ⟨41, 1, 0⟩ else if low = 13 then ⟨50, 0, 0⟩ else if low = 15 then ⟨51, 0, 1⟩ else ⟨0, 0, 0⟩
def pageChange (low : Int) : Int :=
  if low = 0 then 13 else if low = 3 then 14 else if low = 4 then 15 else if low = 6 then 16 else if low = 7 then 17 else if low = 8 then 18 else if low = 9 then 19 else if low = 10 then 20 else if low = 12 then 21 else if low = 13 then 22 else if low = 15 then 23 else 0
def pageEight (low : Int) : Int :=
  if low = 0 then 10 else if low = 1 then 6 else if low = 2 then 9 else if low = 4 then 4 else if low = 5 then 5 else if low = 6 then 11 else if low = 7 then 12 else if low = 8 then 7 else if low = 9 then 2 else if low = 10 then 8 else if low = 11 then 3 else 0
def pageColumn (low : Int) : Int :=
  if low = 0 ∨ low = 4 ∨ low = 8 ∨ low = 12 then 1 else if low = 1 ∨ low = 5 ∨ low = 9 ∨ low = 13 then 3 else if low = 2 ∨ low = 6 ∨ low = 10 ∨ low = 14 then 4 else 5
def pageMemory (low : Int) (mode : Int) : Ent :=
  if low = 14 then ⟨32, mode, 0⟩ else if low = 1 ∨ low = 2 ∨ low = 5 ∨ low = 11 then ⟨0, 0, 0⟩ else ⟨pageChange low, mode, 0⟩
def pageInside (low : Int) (reg : Int) : Ent :=
  if low = 1 ∨ low = 2 ∨ low = 5 ∨ low = 11 ∨ low = 14 then ⟨0, 0, 0⟩ else ⟨pageChange low, 0, reg⟩
def pageWide (op mode reg : Int) : Ent := if mode = 1 then (if op = 25 then ⟨0, 0, 0⟩ else ⟨op, 2, reg⟩) else ⟨op, mode, reg⟩
def pageColumns (high low : Int) : Ent :=
  if pageEight low ≠ 0 then (if pageEight low = 12 ∧ pageColumn high = 1 then ⟨0, 0, 0⟩ else if 11 < high then ⟨pageEight low, pageColumn high, 9⟩ else ⟨pageEight low, pageColumn high, 8⟩)
  else if 11 < high then (if low = 3 then pageWide 26 (pageColumn high) 0 else if low = 12 then pageWide 24 (pageColumn high) 0 else if low = 13 then pageWide 25 (pageColumn high) 0 else if low = 14 then pageWide 24 (pageColumn high) 3 else pageWide 25 (pageColumn high) 3)
  else if low = 3 then pageWide 27 (pageColumn high) 0 else if low = 12 then pageWide 28 (pageColumn high) 1 else if low = 14 then pageWide 24 (pageColumn high) 1 else if low = 15 then pageWide 25 (pageColumn high) 1
  else if pageColumn high = 1 then ⟨37, 6, 0⟩ else ⟨33, pageColumn high, 0⟩
def pageFirst (high low : Int) : Ent :=
  if high = 0 then pageMemory low 3 else if high = 1 then pageTens low else if high = 2 then ⟨34, 6, low⟩ else if high = 3 then pageThirties low else if high = 4 then pageInside low 8 else if high = 5 then pageInside low 9
  else if high = 6 then pageMemory low 4 else if high = 7 then pageMemory low 5 else pageColumns high low
def pageSecond (high low : Int) : Ent :=
  if high = 2 then (if low = 0 then ⟨0, 0, 0⟩ else ⟨35, 7, low⟩)
  else if high < 8 then ⟨0, 0, 0⟩
  else if high < 12 then (if low = 3 then pageWide 28 (pageColumn high) 0 else if low = 12 then pageWide 28 (pageColumn high) 2 else if low = 14 then pageWide 24 (pageColumn high) 2 else if low = 15 then pageWide 25 (pageColumn high) 2 else ⟨0, 0, 0⟩)
  else if low = 14 then pageWide 24 (pageColumn high) 4 else if low = 15 then pageWide 25 (pageColumn high) 4 else ⟨0, 0, 0⟩
def pageThird (high low : Int) : Ent :=
  if high < 8 then ⟨0, 0, 0⟩ else if high < 12 then (if low = 3 then pageWide 28 (pageColumn high) 3 else if low = 12 then pageWide 28 (pageColumn high) 4 else ⟨0, 0, 0⟩) else ⟨0, 0, 0⟩
def pagePrefix (code : Int) : Int := if code = 16 then 2 else if code = 17 then 3 else 0
def pageOf (page : Int) (code : UInt8) : Ent :=
  if page = 1 then pageFirst (hiN code) (loN code)
  else if page = 2 then (if code = 63 then ⟨51, 0, 2⟩ else pageSecond (hiN code) (loN code))
  else if page = 3 then (if code = 63 then ⟨51, 0, 3⟩ else pageThird (hiN code) (loN code))
  else ⟨0, 0, 0⟩
def prefix_ (code : UInt8) : Int := if code = 16 then 2 else if code = 17 then 3 else 0
/-! ### Postbytes -/
structure Post where
  kind : Int
  reg : Int
  off : UInt16
  ind : Bool
deriving DecidableEq
def postKind (low : Int) : Int :=
  if low = 0 then 7 else if low = 1 then 8 else if low = 2 then 9 else if low = 3 then 10 else if low = 5 then 5 else if low = 6 then 4 else if low = 8 then 2 else if low = 9 then 3 else if low = 11 then 6 else if low = 12 then 11 else if low = 13 then 12 else if low = 15 then 13 else 0
def postReg (b : UInt8) : Int := 1 + ((b >>> 5 &&& 3).toNat : Int)
def postOf (b : UInt8) : Post :=
  if b < 128 then ⟨1, postReg b, sext5 b, false⟩
  else if postKind (loN b) = 11 ∨ postKind (loN b) = 12 then ⟨postKind (loN b), 5, 0, b &&& 16 != 0⟩
  else if postKind (loN b) = 13 then ⟨13, 0, 0, true⟩
  else ⟨postKind (loN b), postReg b, 0, b &&& 16 != 0⟩
def Post.bytes (p : Post) : Int := if p.kind = 2 ∨ p.kind = 11 then 1 else if p.kind = 3 ∨ p.kind = 12 ∨ p.kind = 13 then 2 else 0
def Post.idle (p : Post) : Int :=
  if p.kind = 1 ∨ p.kind = 4 ∨ p.kind = 5 then 2 else if p.kind = 3 ∨ p.kind = 7 ∨ p.kind = 9 then 3 else if p.kind = 8 ∨ p.kind = 10 ∨ p.kind = 12 then 4 else if p.kind = 6 then 5 else 1
/-! ### Addresses -/
def offset (p : Post) (r : Regs) (v : UInt16) : UInt16 :=
  if p.kind = 1 then p.off else if p.kind = 2 ∨ p.kind = 3 ∨ p.kind = 11 ∨ p.kind = 12 ∨ p.kind = 13 then v
  else if p.kind = 4 then sext r.a else if p.kind = 5 then sext r.b else if p.kind = 6 then word r.a r.b else 0
def steps (k : Int) : UInt16 × UInt16 := if k = 7 then (0, 1) else if k = 8 then (0, 2) else if k = 9 then (0xffff, 0) else if k = 10 then (0xfffe, 0) else (0, 0)
def indexOf (p : Post) (r : Regs) (v next : UInt16) : UInt16 × Regs :=
  if p.kind = 11 ∨ p.kind = 12 then (plusW next (offset p r v), r)
  else if p.kind = 13 then (offset p r v, r)
  else
    let base := plusW (r.get p.reg) (steps p.kind).1
    (plusW base (offset p r v), if (steps p.kind).1 ||| (steps p.kind).2 != 0 then r.set p.reg (plusW base (steps p.kind).2) else r)
/-! ### Groups, rows -/
def group (op : Int) : Int :=
  if op = 2 ∨ op = 3 ∨ op = 4 ∨ op = 5 ∨ op = 6 ∨ op = 7 ∨ op = 8 ∨ op = 9 ∨ op = 10 ∨ op = 11 then 1
  else if op = 12 then 2 else if op = 22 then 4 else if op = 24 then 5 else if op = 25 then 6 else if op = 26 ∨ op = 27 ∨ op = 28 then 7 else if op = 29 then 8 else if op = 32 then 9 else if op = 33 then 10
  else if 13 ≤ op ∧ op ≤ 23 then 3 else 0
structure Step where
  kind : Int
  busy : Bool
deriving DecidableEq
def some_ (k n : Int) : List Step := List.replicate n.toNat ⟨k, false⟩
def first_ (k : Int) : List Step := [⟨k, true⟩, ⟨k, false⟩]
def ahead (mode : Int) : List Step :=
  if mode = 1 ∨ mode = 4 ∨ mode = 6 ∨ mode = 8 ∨ mode = 9 then some_ 2 1
  else if mode = 2 ∨ mode = 7 then some_ 2 2
  else if mode = 3 then some_ 2 1 ++ some_ 4 1
  else if mode = 5 then some_ 2 2 ++ some_ 4 1
  else []
def behind (p : Post) : List Step :=
  (some_ 2 p.bytes ++ some_ 4 p.idle) ++ (if p.ind then first_ 11 ++ some_ 4 1 else [])
def vector : List Step := first_ 12 ++ some_ 4 1
def enter (n : Int) : List Step := some_ 4 1 ++ (some_ 8 n ++ (some_ 4 1 ++ vector))
def call : List Step := some_ 7 1 ++ (some_ 4 1 ++ some_ 8 2)
def memoryRow (g : Int) : List Step :=
  if g = 1 then some_ 5 1 else if g = 2 then some_ 6 1 else if g = 3 then [⟨5, true⟩, ⟨4, true⟩, ⟨6, false⟩]
  else if g = 4 then some_ 5 1 ++ some_ 4 2 else if g = 5 then first_ 5 else if g = 6 then first_ 6 else if g = 7 then first_ 5 ++ some_ 4 1
  else if g = 8 then some_ 4 1 else if g = 10 then call else []
def insideRow (op : Int) : List Step :=
  if op = 1 ∨ op = 40 then some_ 3 1 ++ some_ 4 1
  else if op = 50 then some_ 3 1 ++ some_ 4 9
  else if op = 48 then some_ 3 1 ++ (some_ 9 2 ++ some_ 4 1)
  else if op = 49 then some_ 3 1 ++ some_ 9 1
  else if op = 51 then some_ 3 1 ++ enter 12
  else some_ 3 1
def branchRow (e : Ent) (cc : UInt8) : List Step :=
  if e.op = 35 then (if holds e.reg cc then some_ 4 2 else some_ 4 1)
  else if e.op = 36 then some_ 4 2
  else if e.op = 37 then some_ 4 1 ++ call
  else if e.op = 38 then some_ 4 2 ++ call
  else some_ 4 1
def manyRow (op : Int) (b : UInt8) : List Step :=
  if op = 30 then some_ 4 2 ++ (some_ 10 1 ++ some_ 8 (count b)) else some_ 4 2 ++ (some_ 9 (count b) ++ some_ 10 1)
def tail (e : Ent) (b cc : UInt8) : List Step :=
  if e.mode = 0 then insideRow e.op
  else if e.mode = 1 then (if e.op = 43 ∨ e.op = 44 then some_ 4 1 else if e.op = 41 then some_ 3 1 ++ (some_ 4 1 ++ some_ 8 12) else [])
  else if e.mode = 2 then (if group e.op = 7 then some_ 4 1 else [])
  else if e.mode = 6 ∨ e.mode = 7 then branchRow e cc
  else if e.mode = 8 then (if e.op = 46 then some_ 4 6 else some_ 4 4)
  else if e.mode = 9 then manyRow e.op b
  else memoryRow (group e.op)
def rest (b : UInt8) : List Step := (if b &&& 128 != 0 then some_ 9 11 else some_ 9 2) ++ some_ 10 1
def rowOf (kind : Int) : List Step :=
  if kind = 1 ∨ kind = 3 then some_ 3 2 ++ enter 12
  else if kind = 2 then some_ 3 2 ++ enter 3
  else if kind = 4 ∨ kind = 5 ∨ kind = 6 ∨ kind = 7 then vector
  else []
/-! ### The core -/
structure Core where
  r : Regs
  q : List Step
  kind : Int
  page : Int
  e : Ent
  post : UInt8
  args : Int
  value : UInt16
  ea : UInt16
  word : UInt16
  ptr : UInt16
  list : List Part
  stack : Int
  en : Enter
  loads : Bool
def Core.new (r : Regs) : Core := ⟨r, [], 0, 0, ⟨0, 0, 0⟩, 0, 0, 0, 0, 0, 0, [], 0, ⟨0, 0, 0, false⟩, false⟩
def pushQ (q l : List Step) : List Step := if q.length + l.length ≤ 24 then q ++ l else q
def Core.push (s : Core) (l : List Step) : Core := { s with q := pushQ s.q l }
def Core.into (s : Core) (e : Enter) (push : Bool) : Core :=
  if push then { s with en := e, ea := e.vector, r := { s.r with cc := e.pushed }, list := partsOf e.whole } else { s with en := e, ea := e.vector }
def Core.begin_ (s : Core) (kind : Int) : Core × Bool :=
  if s.q ≠ [] then (s, false)
  else if kind ≠ 0 ∧ (frameOf kind s.r.cc).2 = false then (s, false)
  else
    let t := { Core.new s.r with kind := kind, page := 1, stack := 4 }
    if kind = 0 then (t.push [⟨1, false⟩], true)
    else (((t.into (frameOf kind s.r.cc).1 (decide (kind ≤ 3))).push (rowOf kind)), true)
def Core.top (s : Core) : UInt16 := s.r.get s.stack
structure Bus where
  addr : UInt16
  data : UInt8
  read : Bool
  bs : Bool
  busy : Bool
deriving DecidableEq
def Core.want (s : Core) : Bus × Bool :=
  match s.q with
  | [] => (⟨0, 0, false, false, false⟩, false)
  | t :: _ =>
    (if t.kind = 1 ∨ t.kind = 2 ∨ t.kind = 3 then ⟨s.r.pc, 0, true, false, t.busy⟩
     else if t.kind = 5 ∨ t.kind = 7 ∨ t.kind = 11 then ⟨s.ea, 0, true, false, t.busy⟩
     else if t.kind = 12 then ⟨s.ea, 0, true, true, t.busy⟩
     else if t.kind = 6 then ⟨s.ea, if t.busy then hi s.word else lo s.word, false, false, t.busy⟩
     else if t.kind = 8 then ⟨minusW s.top 1, s.r.byte (s.list.headD ⟨0, false⟩), false, false, t.busy⟩
     else if t.kind = 9 ∨ t.kind = 10 then ⟨s.top, 0, true, false, t.busy⟩
     else ⟨0xffff, 0, true, false, t.busy⟩, true)
def posted (m : Int) : Bool := decide (m = 4) || decide (m = 8) || decide (m = 9)
def Core.opcode (s : Core) (b : UInt8) : Core :=
  let s := { s with r := { s.r with pc := plusW s.r.pc 1 } }
  if prefix_ b ≠ 0 ∧ s.page = 1 then { s with page := prefix_ b }.push [⟨1, false⟩]
  else
    let s := { s with e := pageOf s.page b }
    let s := s.push (ahead s.e.mode)
    let s := if s.e.mode ≠ 4 ∧ s.e.mode ≠ 9 then s.push (tail s.e 0 s.r.cc) else s
    if s.e.op = 51 then s.into (frameSoft s.e.reg s.r.cc).1 true
    else if s.e.op = 48 then { s with list := order 0x80 4 }
    else if s.e.op = 49 then { s with list := order 0x01 4 }
    else if s.e.op = 33 ∨ s.e.op = 37 ∨ s.e.op = 38 then { s with list := [⟨5, false⟩, ⟨5, true⟩] }
    else s
def Core.postbyte (s : Core) (b : UInt8) : Core :=
  let s := { s with post := b }
  if s.e.mode = 4 then (s.push (behind (postOf b))).push (tail s.e b s.r.cc)
  else if s.e.mode = 9 then
    { s with stack := s.e.reg, list := if s.e.op = 30 then (order b s.e.reg).reverse else order b s.e.reg }.push (tail s.e b s.r.cc)
  else s
def Core.ready1 (s : Core) : Core :=
  if s.e.mode = 6 then { s with ea := plusW s.r.pc (sext (lo s.value)) }
  else if s.e.mode = 7 then { s with ea := plusW s.r.pc s.value }
  else if s.e.mode = 3 then { s with ea := Sp.word s.r.dp (lo s.value) }
  else if s.e.mode = 5 then { s with ea := s.value }
  else if s.e.mode = 4 then
    let v := if (postOf s.post).bytes = 1 then sext (lo s.value) else s.value
    let x := indexOf (postOf s.post) s.r v s.r.pc
    { s with value := v, ea := x.1, r := x.2 }
  else s
def Core.ready2 (s : Core) : Core :=
  if s.e.op = 12 then { s with word := s.r.get s.e.reg, r := { s.r with cc := toldB s.r.cc (lo (s.r.get s.e.reg)) } }
  else if s.e.op = 25 then { s with word := s.r.get s.e.reg, r := { s.r with cc := tstW (s.r.get s.e.reg) s.r.cc } }
  else if s.e.op = 41 then { s with r := { s.r with cc := wb true (andB s.r.cc (lo s.value)) 128 }, list := partsOf true }
  else s
def Core.ready (s : Core) : Core := s.ready1.ready2
def nextArg (q : List Step) : Bool := match q with | [] => false | t :: _ => decide (t.kind = 2)
def Core.arg (s : Core) (b : UInt8) : Core :=
  let s := { s with r := { s.r with pc := plusW s.r.pc 1 }, args := IntKind.i64.wrap (s.args + 1) }
  let s := if s.args = 1 ∧ posted s.e.mode = true then s.postbyte b else { s with value := joinW s.value b }
  if nextArg s.q then s else s.ready
def Core.eight (s : Core) (b : UInt8) : Core :=
  let x := alu8 s.e.op (lo (s.r.get s.e.reg)) b s.r.cc
  let r := { s.r with cc := x.2.1 }
  { s with r := if x.2.2 then r.set s.e.reg (wide x.1) else r }
def Core.sixteen (s : Core) (w : UInt16) : Core :=
  let x := alu16 s.e.op (s.r.get s.e.reg) w s.r.cc
  let r := { s.r with cc := x.2.1 }
  if x.2.2 then { s with r := r.set s.e.reg x.1, loads := decide (s.e.reg = 4) } else { s with r := r }
def Core.load (s : Core) (t : Step) (b : UInt8) : Core :=
  let s := { s with word := joinW s.word b }
  if group s.e.op = 1 then s.eight b
  else if group s.e.op = 3 ∨ group s.e.op = 4 then
    let x := change s.e.op b s.r.cc
    { s with word := wide x.1, r := { s.r with cc := x.2.1 } }
  else if group s.e.op = 5 ∨ group s.e.op = 7 then (if t.busy then { s with ea := plusW s.ea 1 } else s.sixteen s.word)
  else s
def Core.pull (s : Core) (b : UInt8) : Core :=
  let p := s.list.headD ⟨0, false⟩
  let s := { s with list := s.list.tail, r := (s.r.set s.stack (plusW s.top 1)).put p b }
  if s.e.op ≠ 49 ∨ p.reg ≠ 10 then s
  else { s with list := if hb b 128 then order 0xfe 4 else order 0x80 4 }.push (rest b)
def Core.pointer (s : Core) (t : Step) (b : UInt8) : Core :=
  if t.busy then { s with ptr := wide b, ea := plusW s.ea 1 }
  else if t.kind = 12 then { s with r := { s.r with pc := joinW s.ptr b } }
  else { s with ea := joinW s.ptr b }
def Core.do_ (s : Core) (t : Step) (b : UInt8) : Core :=
  if t.kind = 1 then s.opcode b
  else if t.kind = 2 then s.arg b
  else if t.kind = 5 then s.load t b
  else if t.kind = 6 then { s with ea := plusW s.ea 1 }
  else if t.kind = 8 then { s with r := s.r.set s.stack (minusW s.top 1), list := s.list.tail }
  else if t.kind = 9 then s.pull b
  else if t.kind = 11 ∨ t.kind = 12 then s.pointer t b
  else s
structure Sign where
  lic : Bool
  avma : Bool
  end_ : Int
  loads : Bool
deriving DecidableEq
def Core.immediate (s : Core) : Core :=
  if s.e.op = 43 then { s with r := { s.r with cc := orB s.r.cc (lo s.value) } }
  else if s.e.op = 44 then { s with r := { s.r with cc := andB s.r.cc (lo s.value) } }
  else s.eight (lo s.value)
def Core.inside (s : Core) : Core :=
  if s.e.op = 1 then { s with r := { s.r with x := plusW s.r.x (wide s.r.b) } }
  else if s.e.op = 42 then { s with r := { s.r with a := (daaB s.r.a s.r.cc).1, cc := (daaB s.r.a s.r.cc).2 } }
  else if s.e.op = 45 then { s with r := { s.r.set 0 (sext s.r.b) with cc := nzW s.r.cc (sext s.r.b) } }
  else if s.e.op = 50 then { s with r := { s.r.set 0 (mulB s.r.a s.r.b s.r.cc).1 with cc := (mulB s.r.a s.r.b s.r.cc).2 } }
  else if s.e.op = 51 then { s with r := { s.r with cc := s.en.then_ } }
  else
    let x := change s.e.op (lo (s.r.get s.e.reg)) s.r.cc
    let r := { s.r with cc := x.2.1 }
    { s with r := if x.2.2 then r.set s.e.reg (wide x.1) else r }
def Core.last1 (s : Core) : Core :=
  if s.e.mode = 0 then s.inside
  else if s.e.mode = 1 then s.immediate
  else if s.e.mode = 2 then s.sixteen s.value
  else if s.e.mode = 6 ∨ s.e.mode = 7 then (if (s.e.op ≠ 34 ∧ s.e.op ≠ 35) ∨ holds s.e.reg s.r.cc = true then { s with r := { s.r with pc := s.ea } } else s)
  else if s.e.mode = 8 then
    (if s.e.op = 47 then { s with r := s.r.tfr s.post, loads := decide (loN s.post = 4) } else { s with r := s.r.exg s.post, loads := decide (hiN s.post = 4) || decide (loN s.post = 4) })
  else if s.e.mode = 9 then { s with loads := decide (s.e.op = 31) && decide (s.e.reg = 3) && (s.post &&& 64 != 0) }
  else s
def Core.last2 (s : Core) (e : Ent) : Core :=
  if e.op = 32 ∨ e.op = 33 then { s with r := { s.r with pc := s.ea } }
  else if e.op = 29 then
    let r := s.r.set e.reg s.ea
    { s with r := if e.reg = 1 ∨ e.reg = 2 then { r with cc := wb (s.ea == 0) r.cc 4 } else r, loads := decide (e.reg = 4) }
  else s
def Core.last (s : Core) : Core := s.last1.last2 s.e
def Core.finish (s : Core) : Core × Sign :=
  if s.kind ≠ 0 then
    ({ s with r := { s.r with cc := s.en.then_, dp := if s.kind = 4 then 0 else s.r.dp } }, ⟨true, true, 1, false⟩)
  else if s.e.op = 40 then (s, ⟨false, false, 2, false⟩)
  else if s.e.op = 41 then (s, ⟨false, false, 3, false⟩)
  else (s.last, ⟨true, true, 1, s.last.loads⟩)
def Core.tick (s : Core) (b : UInt8) : Core × Sign × Bool :=
  match s.q with
  | [] => (s, ⟨false, false, 0, false⟩, false)
  | t :: q =>
    let s := { s with q := q }.do_ t b
    match s.q with
    | [] => (s.finish.1, s.finish.2, true)
    | n :: _ => (s, ⟨false, decide (n.kind ≠ 4), 0, false⟩, true)
/-! ### The processor -/
structure Latch where
  level : Bool
  armed : Bool
  set : Bool
deriving DecidableEq
structure Arb where
  phase : Int
  count : Int
deriving DecidableEq
structure Pins where
  reset : Bool
  nmi : Bool
  firq : Bool
  irq : Bool
  halt : Bool
  req : Bool
deriving DecidableEq
structure Rec where
  addr : UInt16
  data : UInt8
  read : Bool
  ba : Bool
  bs : Bool
  lic : Bool
  avma : Bool
  busy : Bool
  mine : Bool
deriving DecidableEq
def sample (l : Latch) (level : Bool) : Latch := ⟨level, l.armed, l.set || (l.armed && level && !l.level)⟩
def arbNext (kind : Int) (s : Arb) (req : Bool) : Arb × Int :=
  if kind = 0 ∧ req = true then (⟨0, 0⟩, 1)
  else if kind = 0 then (⟨0, 0⟩, 0)
  else if s.phase = 1 ∧ req = true ∧ s.count < 15 then (⟨1, IntKind.i64.wrap (s.count + 1)⟩, 1)
  else if s.phase = 1 then (⟨2, 0⟩, 2)
  else if s.phase = 0 ∧ req = true then (⟨1, 0⟩, 2)
  else (⟨0, 0⟩, 0)
def prioRow (l : Latch) (p : Pins) (cc : UInt8) : Int := if l.set then 1 else if p.firq && !hb cc 64 then 2 else if p.irq && !hb cc 16 then 3 else 0
def wakes (l : Latch) (p : Pins) : Bool := l.set || p.firq || p.irq
def prioBehind (l : Latch) (p : Pins) (cc : UInt8) : Int × Bool := if prioRow l p cc = 0 then (0, false) else (prioRow l p cc + 4, true)
structure Cpu where
  latch : Latch
  arb : Arb
  kind : Int
  mode : Int
  row : Int
  now : Regs
  core : Core
def Cpu.begin_ (c : Cpu) (row : Int) : Cpu :=
  { c with latch := if row = 1 ∨ row = 5 then { c.latch with set := false } else c.latch, mode := 1, row := row, core := (c.core.begin_ row).1 }
def Cpu.over (c : Cpu) (mode : Int) : Cpu := { c with mode := mode, row := 0, now := c.core.r }
abbrev Mem := Nat → UInt8
def upM (m : Mem) (a : Nat) (b : UInt8) : Mem := fun k => if k = a then b else m k
def wrM (m : Mem) (rom : Int) (a : UInt16) (b : UInt8) : Mem := if (a.toNat : Int) < rom then upM m a.toNat b else m
def Cpu.step (c : Cpu) (m : Mem) (rom : Int) : Rec × Cpu × Mem :=
  let w := c.core.want.1
  let d := if w.read then m w.addr.toNat else w.data
  let m := if w.read then m else wrM m rom w.addr w.data
  let t := c.core.tick d
  let c := { c with core := t.1, latch := if t.2.1.loads then { c.latch with armed := true } else c.latch }
  let c := if t.2.1.end_ = 1 then c.over 0 else if t.2.1.end_ = 2 then c.over 2 else if t.2.1.end_ = 3 then c.over 3 else c
  (⟨w.addr, d, w.read, false, w.bs, t.2.1.lic, t.2.1.avma, w.busy, true⟩, c, m)
def Cpu.reset (c : Cpu) (m : Mem) : Rec × Cpu :=
  (⟨0xfffe, m 65534, true, false, false, false, true, false, true⟩, { c with latch := ⟨c.latch.level, false, false⟩, arb := ⟨0, 0⟩, mode := 4, row := 0, core := Core.new c.now })
def Cpu.sync (c : Cpu) (p : Pins) (m : Mem) : Rec × Cpu :=
  if wakes c.latch p then (⟨0xffff, m 65535, true, false, false, true, true, false, true⟩, { c with mode := 0 }) else (⟨0xffff, 0, true, true, false, false, false, false, true⟩, c)
def Cpu.cwai (c : Cpu) (p : Pins) (m : Mem) : Rec × Cpu :=
  let x := prioBehind c.latch p c.now.cc
  (⟨0xffff, m 65535, true, false, false, false, x.2, false, true⟩, if x.2 then c.begin_ x.1 else c)
def Cpu.cycle (c : Cpu) (p : Pins) (m : Mem) (rom : Int) : Rec × Cpu × Mem :=
  let c := { c with latch := sample c.latch p.nmi }
  if p.reset then let x := c.reset m; (x.1, x.2, m)
  else
    let a := arbNext c.kind c.arb p.req
    let c := { c with arb := a.1 }
    if a.2 = 1 then (⟨0xffff, 0, true, true, true, false, false, false, false⟩, c, m)
    else if a.2 = 2 then (⟨0xffff, 0, true, false, false, false, false, false, false⟩, c, m)
    else if c.mode = 2 then let x := c.sync p m; (x.1, x.2, m)
    else if c.mode = 3 then let x := c.cwai p m; (x.1, x.2, m)
    else if c.mode = 4 then (c.begin_ 4).step m rom
    else if c.mode = 0 then (if p.halt then (⟨0xffff, 0, true, true, true, true, false, false, false⟩, c, m) else (c.begin_ (prioRow c.latch p c.now.cc)).step m rom)
    else c.step m rom
end Go.Proofs.YtkdaphkpllgmbaaGreat.Sp
namespace Go.Proofs.YtkdaphkpllgmbaaGreat
open Go.RowKit Sp
set_option linter.unusedSimpArgs false
theorem wrap16 (n : Int) : IntKind.u16.wrap n = n % 65536 := by simp [IntKind.wrap, IntKind.bits, IntKind.signed]
theorem and8 (a b : UInt8) : Go.bits .and .u8 (a.toNat : Int) (b.toNat : Int) = ((a &&& b).toNat : Int) := by
  simp only [Go.bits, IntKind.bits, BitVec.ofInt_natCast, IntKind.wrap_u8]
  rw [show BitVec.ofNat 8 a.toNat = a.toBitVec from by show BitVec.ofNat 8 a.toBitVec.toNat = _; simp, show BitVec.ofNat 8 b.toNat = b.toBitVec from by show BitVec.ofNat 8 b.toBitVec.toNat = _; simp]
  have := (a &&& b).toNat_lt
  show ((((a &&& b).toNat : Nat) : Int)) % 256 = _
  omega
theorem or8 (a b : UInt8) : Go.bits .or .u8 (a.toNat : Int) (b.toNat : Int) = ((a ||| b).toNat : Int) := by
  simp only [Go.bits, IntKind.bits, BitVec.ofInt_natCast, IntKind.wrap_u8]
  rw [show BitVec.ofNat 8 a.toNat = a.toBitVec from by show BitVec.ofNat 8 a.toBitVec.toNat = _; simp, show BitVec.ofNat 8 b.toNat = b.toBitVec from by show BitVec.ofNat 8 b.toBitVec.toNat = _; simp]
  have := (a ||| b).toNat_lt
  show ((((a ||| b).toNat : Nat) : Int)) % 256 = _
  omega
theorem xor8 (a b : UInt8) : Go.bits .xor .u8 (a.toNat : Int) (b.toNat : Int) = ((a ^^^ b).toNat : Int) := by
  simp only [Go.bits, IntKind.bits, BitVec.ofInt_natCast, IntKind.wrap_u8]
  rw [show BitVec.ofNat 8 a.toNat = a.toBitVec from by show BitVec.ofNat 8 a.toBitVec.toNat = _; simp, show BitVec.ofNat 8 b.toNat = b.toBitVec from by show BitVec.ofNat 8 b.toBitVec.toNat = _; simp]
  have := (a ^^^ b).toNat_lt
  show ((((a ^^^ b).toNat : Nat) : Int)) % 256 = _
  omega
theorem andNot8 (a b : UInt8) : Go.bits .andNot .u8 (a.toNat : Int) (b.toNat : Int) = ((a &&& ~~~b).toNat : Int) := by
  simp only [Go.bits, IntKind.bits, BitVec.ofInt_natCast, IntKind.wrap_u8]
  rw [show BitVec.ofNat 8 a.toNat = a.toBitVec from by show BitVec.ofNat 8 a.toBitVec.toNat = _; simp, show BitVec.ofNat 8 b.toNat = b.toBitVec from by show BitVec.ofNat 8 b.toBitVec.toNat = _; simp]
  have := (a &&& ~~~b).toNat_lt
  show ((((a &&& ~~~b).toNat : Nat) : Int)) % 256 = _
  omega
theorem ne0_8 (x : UInt8) : ((x.toNat : Int) != 0) = (x != 0) := by
  have h : (x = 0) ↔ x.toNat = 0 := by rw [← UInt8.toNat_inj]; rfl
  rw [Bool.eq_iff_iff, bne_iff_ne, bne_iff_ne, ne_eq, ne_eq, h]; omega
theorem eq0_8 (x : UInt8) : ((x.toNat : Int) == 0) = (x == 0) := by
  have h : (x = 0) ↔ x.toNat = 0 := by rw [← UInt8.toNat_inj]; rfl
  rw [Bool.eq_iff_iff, beq_iff_eq, beq_iff_eq, h]; omega
theorem and16 (a b : UInt16) : Go.bits .and .u16 (a.toNat : Int) (b.toNat : Int) = ((a &&& b).toNat : Int) := by
  simp only [Go.bits, IntKind.bits, BitVec.ofInt_natCast, wrap16]
  rw [show BitVec.ofNat 16 a.toNat = a.toBitVec from by show BitVec.ofNat 16 a.toBitVec.toNat = _; simp, show BitVec.ofNat 16 b.toNat = b.toBitVec from by show BitVec.ofNat 16 b.toBitVec.toNat = _; simp]
  have := (a &&& b).toNat_lt
  show ((((a &&& b).toNat : Nat) : Int)) % 65536 = _
  omega
theorem or16w (a b : UInt16) : Go.bits .or .u16 (a.toNat : Int) (b.toNat : Int) = ((a ||| b).toNat : Int) := by
  simp only [Go.bits, IntKind.bits, BitVec.ofInt_natCast, wrap16]
  rw [show BitVec.ofNat 16 a.toNat = a.toBitVec from by show BitVec.ofNat 16 a.toBitVec.toNat = _; simp, show BitVec.ofNat 16 b.toNat = b.toBitVec from by show BitVec.ofNat 16 b.toBitVec.toNat = _; simp]
  have := (a ||| b).toNat_lt
  show ((((a ||| b).toNat : Nat) : Int)) % 65536 = _
  omega
theorem xor16 (a b : UInt16) : Go.bits .xor .u16 (a.toNat : Int) (b.toNat : Int) = ((a ^^^ b).toNat : Int) := by
  simp only [Go.bits, IntKind.bits, BitVec.ofInt_natCast, wrap16]
  rw [show BitVec.ofNat 16 a.toNat = a.toBitVec from by show BitVec.ofNat 16 a.toBitVec.toNat = _; simp, show BitVec.ofNat 16 b.toNat = b.toBitVec from by show BitVec.ofNat 16 b.toBitVec.toNat = _; simp]
  have := (a ^^^ b).toNat_lt
  show ((((a ^^^ b).toNat : Nat) : Int)) % 65536 = _
  omega
theorem andNot16 (a b : UInt16) : Go.bits .andNot .u16 (a.toNat : Int) (b.toNat : Int) = ((a &&& ~~~b).toNat : Int) := by
  simp only [Go.bits, IntKind.bits, BitVec.ofInt_natCast, wrap16]
  rw [show BitVec.ofNat 16 a.toNat = a.toBitVec from by show BitVec.ofNat 16 a.toBitVec.toNat = _; simp, show BitVec.ofNat 16 b.toNat = b.toBitVec from by show BitVec.ofNat 16 b.toBitVec.toNat = _; simp]
  have := (a &&& ~~~b).toNat_lt
  show ((((a &&& ~~~b).toNat : Nat) : Int)) % 65536 = _
  omega
theorem ne0_16 (x : UInt16) : ((x.toNat : Int) != 0) = (x != 0) := by
  have h : (x = 0) ↔ x.toNat = 0 := by rw [← UInt16.toNat_inj]; rfl
  rw [Bool.eq_iff_iff, bne_iff_ne, bne_iff_ne, ne_eq, ne_eq, h]; omega
theorem eq0_16 (x : UInt16) : ((x.toNat : Int) == 0) = (x == 0) := by
  have h : (x = 0) ↔ x.toNat = 0 := by rw [← UInt16.toNat_inj]; rfl
  rw [Bool.eq_iff_iff, beq_iff_eq, beq_iff_eq, h]; omega
theorem and8_1 (a : UInt8) : Go.bits .and .u8 (a.toNat : Int) 1 = ((a &&& 1).toNat : Int) := and8 a 1
theorem and8_15 (a : UInt8) : Go.bits .and .u8 (a.toNat : Int) 15 = ((a &&& 15).toNat : Int) := and8 a 15
theorem and8_16 (a : UInt8) : Go.bits .and .u8 (a.toNat : Int) 16 = ((a &&& 16).toNat : Int) := and8 a 16
theorem and8_128 (a : UInt8) : Go.bits .and .u8 (a.toNat : Int) 128 = ((a &&& 128).toNat : Int) := and8 a 128
theorem and8_240 (a : UInt8) : Go.bits .and .u8 (a.toNat : Int) 240 = ((a &&& 240).toNat : Int) := and8 a 240
theorem and16_128 (a : UInt16) : Go.bits .and .u16 (a.toNat : Int) 128 = ((a &&& 128).toNat : Int) := and16 a 128
theorem and16_32768 (a : UInt16) : Go.bits .and .u16 (a.toNat : Int) 32768 = ((a &&& 32768).toNat : Int) := and16 a 32768
theorem with1_t (on : Bool) (cc b : UInt8) : with1 on (cc.toNat : Int) (b.toNat : Int) = ((wb on cc b).toNat : Int) := by
  cases on <;> simp [with1, wb, or8, andNot8]
theorem with1_1 (on : Bool) (cc : UInt8) : with1 on (cc.toNat : Int) 1 = ((wb on cc 1).toNat : Int) := with1_t on cc 1
theorem with1_2 (on : Bool) (cc : UInt8) : with1 on (cc.toNat : Int) 2 = ((wb on cc 2).toNat : Int) := with1_t on cc 2
theorem with1_4 (on : Bool) (cc : UInt8) : with1 on (cc.toNat : Int) 4 = ((wb on cc 4).toNat : Int) := with1_t on cc 4
theorem with1_8 (on : Bool) (cc : UInt8) : with1 on (cc.toNat : Int) 8 = ((wb on cc 8).toNat : Int) := with1_t on cc 8
theorem with1_16 (on : Bool) (cc : UInt8) : with1 on (cc.toNat : Int) 16 = ((wb on cc 16).toNat : Int) := with1_t on cc 16
theorem with1_32 (on : Bool) (cc : UInt8) : with1 on (cc.toNat : Int) 32 = ((wb on cc 32).toNat : Int) := with1_t on cc 32
theorem with1_64 (on : Bool) (cc : UInt8) : with1 on (cc.toNat : Int) 64 = ((wb on cc 64).toNat : Int) := with1_t on cc 64
theorem with1_128 (on : Bool) (cc : UInt8) : with1 on (cc.toNat : Int) 128 = ((wb on cc 128).toNat : Int) := with1_t on cc 128
theorem up (a : UInt8) : IntKind.u16.wrap (a.toNat : Int) = (a.toUInt16.toNat : Int) := by have := a.toNat_lt; rw [wrap16]; simp; omega
theorem plus16 (a b : UInt16) : IntKind.u16.wrap ((a.toNat : Int) + (b.toNat : Int)) = ((a + b).toNat : Int) := by rw [wrap16, UInt16.toNat_add]; omega
theorem minus16 (a b : UInt16) : IntKind.u16.wrap ((a.toNat : Int) - (b.toNat : Int)) = ((a - b).toNat : Int) := by have := a.toNat_lt; have := b.toNat_lt; rw [wrap16, UInt16.toNat_sub]; omega
theorem times16 (a b : UInt16) : IntKind.u16.wrap ((a.toNat : Int) * (b.toNat : Int)) = ((a * b).toNat : Int) := by rw [wrap16, UInt16.toNat_mul]; omega
theorem down (x : UInt16) : (x.toNat : Int) % (256 : Int) = (x.toUInt8.toNat : Int) := by rw [UInt16.toNat_toUInt8]; omega
theorem add16_t (a b c : UInt8) : add16 a.toNat b.toNat c.toNat = ((a.toUInt16 + b.toUInt16 + c.toUInt16).toNat : Int) := by simp only [add16, up, plus16]
theorem sub16_t (a b c : UInt8) : sub16 a.toNat b.toNat c.toNat = ((a.toUInt16 - b.toUInt16 - c.toUInt16).toNat : Int) := by simp only [sub16, up, minus16]
theorem gt255 (d : UInt16) : decide ((d.toNat : Int) > 255) = decide (d > 255) := by
  rw [decide_eq_decide]
  show _ ↔ (255 : UInt16) < d
  rw [UInt16.lt_iff_toNat_lt]
  simp; omega
theorem lt16 (a b : UInt16) : decide ((a.toNat : Int) < (b.toNat : Int)) = decide (a < b) := by
  rw [decide_eq_decide, UInt16.lt_iff_toNat_lt]; omega
theorem halfB (a : UInt8) : (a.toNat : Int) / (2 : Int) = ((a >>> 1).toNat : Int) := by rw [UInt8.toNat_shiftRight]; simp [Nat.shiftRight_eq_div_pow]
theorem doubleB (a : UInt8) : ((a.toNat : Int) * (2 : Int)) % (256 : Int) = ((a <<< 1).toNat : Int) := by rw [UInt8.toNat_shiftLeft]; simp [Nat.shiftLeft_eq]
theorem top7B (a : UInt8) : ((a.toNat : Int) * (128 : Int)) % (256 : Int) = ((a <<< 7).toNat : Int) := by rw [UInt8.toNat_shiftLeft]; simp [Nat.shiftLeft_eq]
theorem inc8 (a : UInt8) : ((a.toNat : Int) + (1 : Int)) % (256 : Int) = ((a + 1).toNat : Int) := by rw [UInt8.toNat_add]; simp
theorem dec8 (a : UInt8) : ((a.toNat : Int) - (1 : Int)) % (256 : Int) = ((a - 1).toNat : Int) := by have := a.toNat_lt; rw [UInt8.toNat_sub]; simp; omega
theorem eq128 (x : UInt8) : ((x.toNat : Int) == 128) = (x == 128) := by
  rw [Bool.eq_iff_iff, beq_iff_eq, beq_iff_eq, ← UInt8.toNat_inj]; simp; omega
theorem not8 (a : UInt8) : Go.bits .xor .u8 IntKind.u8.max (a.toNat : Int) = ((~~~a).toNat : Int) := by
  rw [show IntKind.u8.max = ((255 : UInt8).toNat : Int) from rfl, xor8]
  exact congrArg (fun x : UInt8 => (x.toNat : Int)) (by rw [← UInt8.toBitVec_inj]; simp only [UInt8.toBitVec_xor, UInt8.toBitVec_not]; exact BitVec.allOnes_xor)
theorem nz_e (cc : UInt8) (r : UInt8) : nz (cc.toNat : Int) (r.toNat : Int) = ((nzB cc r).toNat : Int) := by simp only [nz, nzB, with1_1, with1_2, with1_4, with1_8, with1_16, with1_32, with1_64, with1_128, and8_1, and8_16, and8_128, and16_128, and16_32768, ne0_8, ne0_16, eq0_8, eq0_16, and8, or8, xor8, and16, or16w, xor16, up, plus16, minus16, times16, down, gt255, lt16, halfB, doubleB, top7B, inc8, dec8, eq128, not8, add16_t, sub16_t, andB, orB, xorB, notB, plusW, Sp.wide]
theorem nz_t (cc : UInt8) (r : UInt8) (w : World) : Calls Tryz.prog 251 #[.int .u8 (cc.toNat : Int), .int .u8 (r.toNat : Int)] w fun e w' => e = .returned (.int .u8 ((nzB cc r).toNat : Int)) ∧ Below w.heap.size w w' := by
  rw [← nz_e]; exact nz_any _ _ w
theorem nzw_e (cc : UInt8) (r : UInt16) : nzw (cc.toNat : Int) (r.toNat : Int) = ((nzW cc r).toNat : Int) := by simp only [nzw, nzW, with1_1, with1_2, with1_4, with1_8, with1_16, with1_32, with1_64, with1_128, and8_1, and8_16, and8_128, and16_128, and16_32768, ne0_8, ne0_16, eq0_8, eq0_16, and8, or8, xor8, and16, or16w, xor16, up, plus16, minus16, times16, down, gt255, lt16, halfB, doubleB, top7B, inc8, dec8, eq128, not8, add16_t, sub16_t, andB, orB, xorB, notB, plusW, Sp.wide]
theorem nzw_t (cc : UInt8) (r : UInt16) (w : World) : Calls Tryz.prog 237 #[.int .u8 (cc.toNat : Int), .int .u16 (r.toNat : Int)] w fun e w' => e = .returned (.int .u8 ((nzW cc r).toNat : Int)) ∧ Below w.heap.size w w' := by
  rw [← nzw_e]; exact nzw_any _ _ w
theorem told_e (cc : UInt8) (r : UInt8) : told (cc.toNat : Int) (r.toNat : Int) = ((toldB cc r).toNat : Int) := by simp only [told, toldB, nz_e, with1_1, with1_2, with1_4, with1_8, with1_16, with1_32, with1_64, with1_128, and8_1, and8_16, and8_128, and16_128, and16_32768, ne0_8, ne0_16, eq0_8, eq0_16, and8, or8, xor8, and16, or16w, xor16, up, plus16, minus16, times16, down, gt255, lt16, halfB, doubleB, top7B, inc8, dec8, eq128, not8, add16_t, sub16_t, andB, orB, xorB, notB, plusW, Sp.wide]
theorem told_t (cc : UInt8) (r : UInt8) (w : World) : Calls Tryz.prog 236 #[.int .u8 (cc.toNat : Int), .int .u8 (r.toNat : Int)] w fun e w' => e = .returned (.int .u8 ((toldB cc r).toNat : Int)) ∧ Below w.heap.size w w' := by
  rw [← told_e]; exact told_any _ _ w
theorem logicAnd_e (a : UInt8) (b : UInt8) (cc : UInt8) : logicAnd (a.toNat : Int) (b.toNat : Int) (cc.toNat : Int) = (((((andB a b), toldB cc (andB a b))).1.toNat : Int), ((((andB a b), toldB cc (andB a b))).2.toNat : Int)) := by simp only [logicAnd, told_e, with1_1, with1_2, with1_4, with1_8, with1_16, with1_32, with1_64, with1_128, and8_1, and8_16, and8_128, and16_128, and16_32768, ne0_8, ne0_16, eq0_8, eq0_16, and8, or8, xor8, and16, or16w, xor16, up, plus16, minus16, times16, down, gt255, lt16, halfB, doubleB, top7B, inc8, dec8, eq128, not8, add16_t, sub16_t, andB, orB, xorB, notB, plusW, Sp.wide]
theorem logicAnd_t (a : UInt8) (b : UInt8) (cc : UInt8) (w : World) : Calls Tryz.prog 241 #[.int .u8 (a.toNat : Int), .int .u8 (b.toNat : Int), .int .u8 (cc.toNat : Int)] w fun e w' => e = .returned (.tuple #[.int .u8 ((((andB a b), toldB cc (andB a b))).1.toNat : Int), .int .u8 ((((andB a b), toldB cc (andB a b))).2.toNat : Int)]) ∧ Below w.heap.size w w' := by
  have h := logicAnd_any (a.toNat : Int) (b.toNat : Int) (cc.toNat : Int) w
  rw [logicAnd_e] at h
  exact h
theorem logicOr_e (a : UInt8) (b : UInt8) (cc : UInt8) : logicOr (a.toNat : Int) (b.toNat : Int) (cc.toNat : Int) = (((((orB a b), toldB cc (orB a b))).1.toNat : Int), ((((orB a b), toldB cc (orB a b))).2.toNat : Int)) := by simp only [logicOr, told_e, with1_1, with1_2, with1_4, with1_8, with1_16, with1_32, with1_64, with1_128, and8_1, and8_16, and8_128, and16_128, and16_32768, ne0_8, ne0_16, eq0_8, eq0_16, and8, or8, xor8, and16, or16w, xor16, up, plus16, minus16, times16, down, gt255, lt16, halfB, doubleB, top7B, inc8, dec8, eq128, not8, add16_t, sub16_t, andB, orB, xorB, notB, plusW, Sp.wide]
theorem logicOr_t (a : UInt8) (b : UInt8) (cc : UInt8) (w : World) : Calls Tryz.prog 245 #[.int .u8 (a.toNat : Int), .int .u8 (b.toNat : Int), .int .u8 (cc.toNat : Int)] w fun e w' => e = .returned (.tuple #[.int .u8 ((((orB a b), toldB cc (orB a b))).1.toNat : Int), .int .u8 ((((orB a b), toldB cc (orB a b))).2.toNat : Int)]) ∧ Below w.heap.size w w' := by
  have h := logicOr_any (a.toNat : Int) (b.toNat : Int) (cc.toNat : Int) w
  rw [logicOr_e] at h
  exact h
theorem logicEor_e (a : UInt8) (b : UInt8) (cc : UInt8) : logicEor (a.toNat : Int) (b.toNat : Int) (cc.toNat : Int) = (((((xorB a b), toldB cc (xorB a b))).1.toNat : Int), ((((xorB a b), toldB cc (xorB a b))).2.toNat : Int)) := by simp only [logicEor, told_e, with1_1, with1_2, with1_4, with1_8, with1_16, with1_32, with1_64, with1_128, and8_1, and8_16, and8_128, and16_128, and16_32768, ne0_8, ne0_16, eq0_8, eq0_16, and8, or8, xor8, and16, or16w, xor16, up, plus16, minus16, times16, down, gt255, lt16, halfB, doubleB, top7B, inc8, dec8, eq128, not8, add16_t, sub16_t, andB, orB, xorB, notB, plusW, Sp.wide]
theorem logicEor_t (a : UInt8) (b : UInt8) (cc : UInt8) (w : World) : Calls Tryz.prog 244 #[.int .u8 (a.toNat : Int), .int .u8 (b.toNat : Int), .int .u8 (cc.toNat : Int)] w fun e w' => e = .returned (.tuple #[.int .u8 ((((xorB a b), toldB cc (xorB a b))).1.toNat : Int), .int .u8 ((((xorB a b), toldB cc (xorB a b))).2.toNat : Int)]) ∧ Below w.heap.size w w' := by
  have h := logicEor_any (a.toNat : Int) (b.toNat : Int) (cc.toNat : Int) w
  rw [logicEor_e] at h
  exact h
theorem logicBit_e (a : UInt8) (b : UInt8) (cc : UInt8) : logicBit (a.toNat : Int) (b.toNat : Int) (cc.toNat : Int) = ((toldB cc (andB a b)).toNat : Int) := by simp only [logicBit, told_e, with1_1, with1_2, with1_4, with1_8, with1_16, with1_32, with1_64, with1_128, and8_1, and8_16, and8_128, and16_128, and16_32768, ne0_8, ne0_16, eq0_8, eq0_16, and8, or8, xor8, and16, or16w, xor16, up, plus16, minus16, times16, down, gt255, lt16, halfB, doubleB, top7B, inc8, dec8, eq128, not8, add16_t, sub16_t, andB, orB, xorB, notB, plusW, Sp.wide]
theorem logicBit_t (a : UInt8) (b : UInt8) (cc : UInt8) (w : World) : Calls Tryz.prog 242 #[.int .u8 (a.toNat : Int), .int .u8 (b.toNat : Int), .int .u8 (cc.toNat : Int)] w fun e w' => e = .returned (.int .u8 ((toldB cc (andB a b)).toNat : Int)) ∧ Below w.heap.size w w' := by
  rw [← logicBit_e]; exact logicBit_any _ _ _ w
theorem logicTst_e (a : UInt8) (cc : UInt8) : logicTst (a.toNat : Int) (cc.toNat : Int) = ((toldB cc a).toNat : Int) := by simp only [logicTst, told_e, with1_1, with1_2, with1_4, with1_8, with1_16, with1_32, with1_64, with1_128, and8_1, and8_16, and8_128, and16_128, and16_32768, ne0_8, ne0_16, eq0_8, eq0_16, and8, or8, xor8, and16, or16w, xor16, up, plus16, minus16, times16, down, gt255, lt16, halfB, doubleB, top7B, inc8, dec8, eq128, not8, add16_t, sub16_t, andB, orB, xorB, notB, plusW, Sp.wide]
theorem logicTst_t (a : UInt8) (cc : UInt8) (w : World) : Calls Tryz.prog 200 #[.int .u8 (a.toNat : Int), .int .u8 (cc.toNat : Int)] w fun e w' => e = .returned (.int .u8 ((toldB cc a).toNat : Int)) ∧ Below w.heap.size w w' := by
  rw [← logicTst_e]; exact logicTst_any _ _ w
theorem logicCom_e (a : UInt8) (cc : UInt8) : logicCom (a.toNat : Int) (cc.toNat : Int) = ((((notB a, wb true (toldB cc (notB a)) 1)).1.toNat : Int), (((notB a, wb true (toldB cc (notB a)) 1)).2.toNat : Int)) := by simp only [logicCom, told_e, with1_1, with1_2, with1_4, with1_8, with1_16, with1_32, with1_64, with1_128, and8_1, and8_16, and8_128, and16_128, and16_32768, ne0_8, ne0_16, eq0_8, eq0_16, and8, or8, xor8, and16, or16w, xor16, up, plus16, minus16, times16, down, gt255, lt16, halfB, doubleB, top7B, inc8, dec8, eq128, not8, add16_t, sub16_t, andB, orB, xorB, notB, plusW, Sp.wide]
theorem logicCom_t (a : UInt8) (cc : UInt8) (w : World) : Calls Tryz.prog 205 #[.int .u8 (a.toNat : Int), .int .u8 (cc.toNat : Int)] w fun e w' => e = .returned (.tuple #[.int .u8 (((notB a, wb true (toldB cc (notB a)) 1)).1.toNat : Int), .int .u8 (((notB a, wb true (toldB cc (notB a)) 1)).2.toNat : Int)]) ∧ Below w.heap.size w w' := by
  have h := logicCom_any (a.toNat : Int) (cc.toNat : Int) w
  rw [logicCom_e] at h
  exact h
theorem told_0 (cc : UInt8) : told (cc.toNat : Int) 0 = ((toldB cc 0).toNat : Int) := told_e cc 0
theorem logicClr_e (cc : UInt8) : logicClr (cc.toNat : Int) = (((((0 : UInt8), wb false (toldB cc 0) 1)).1.toNat : Int), ((((0 : UInt8), wb false (toldB cc 0) 1)).2.toNat : Int)) := by simp only [logicClr, told_0, with1_1, with1_2, with1_4, with1_8, with1_16, with1_32, with1_64, with1_128, and8_1, and8_16, and8_128, and16_128, and16_32768, ne0_8, ne0_16, eq0_8, eq0_16, and8, or8, xor8, and16, or16w, xor16, up, plus16, minus16, times16, down, gt255, lt16, halfB, doubleB, top7B, inc8, dec8, eq128, not8, add16_t, sub16_t, show ((0 : UInt8).toNat : Int) = 0 from rfl, andB, orB, xorB, notB, plusW, Sp.wide]
theorem logicClr_t (cc : UInt8) (w : World) : Calls Tryz.prog 213 #[.int .u8 (cc.toNat : Int)] w fun e w' => e = .returned (.tuple #[.int .u8 ((((0 : UInt8), wb false (toldB cc 0) 1)).1.toNat : Int), .int .u8 ((((0 : UInt8), wb false (toldB cc 0) 1)).2.toNat : Int)]) ∧ Below w.heap.size w w' := by
  have h := logicClr_any (cc.toNat : Int) w
  rw [logicClr_e] at h
  exact h
theorem adder_e (a : UInt8) (b : UInt8) (c : UInt8) (cc : UInt8) : adder (a.toNat : Int) (b.toNat : Int) (c.toNat : Int) (cc.toNat : Int) = (((addB a b c cc).1.toNat : Int), ((addB a b c cc).2.toNat : Int)) := by simp only [adder, addB, nz_e, with1_1, with1_2, with1_4, with1_8, with1_16, with1_32, with1_64, with1_128, and8_1, and8_16, and8_128, and16_128, and16_32768, ne0_8, ne0_16, eq0_8, eq0_16, and8, or8, xor8, and16, or16w, xor16, up, plus16, minus16, times16, down, gt255, lt16, halfB, doubleB, top7B, inc8, dec8, eq128, not8, add16_t, sub16_t, andB, orB, xorB, notB, plusW, Sp.wide]
theorem adder_t (a : UInt8) (b : UInt8) (c : UInt8) (cc : UInt8) (w : World) : Calls Tryz.prog 261 #[.int .u8 (a.toNat : Int), .int .u8 (b.toNat : Int), .int .u8 (c.toNat : Int), .int .u8 (cc.toNat : Int)] w fun e w' => e = .returned (.tuple #[.int .u8 ((addB a b c cc).1.toNat : Int), .int .u8 ((addB a b c cc).2.toNat : Int)]) ∧ Below w.heap.size w w' := by
  have h := adder_any (a.toNat : Int) (b.toNat : Int) (c.toNat : Int) (cc.toNat : Int) w
  rw [adder_e] at h
  exact h
theorem adder_0 (a b cc : UInt8) : adder (a.toNat : Int) (b.toNat : Int) 0 (cc.toNat : Int) = (((addB a b 0 cc).1.toNat : Int), ((addB a b 0 cc).2.toNat : Int)) := adder_e a b 0 cc
theorem adderAdd_e (a : UInt8) (b : UInt8) (cc : UInt8) : adderAdd (a.toNat : Int) (b.toNat : Int) (cc.toNat : Int) = (((addB a b 0 cc).1.toNat : Int), ((addB a b 0 cc).2.toNat : Int)) := by simp only [adderAdd, adder_0, andB, orB, xorB, notB, plusW, Sp.wide]
theorem adderAdd_t (a : UInt8) (b : UInt8) (cc : UInt8) (w : World) : Calls Tryz.prog 240 #[.int .u8 (a.toNat : Int), .int .u8 (b.toNat : Int), .int .u8 (cc.toNat : Int)] w fun e w' => e = .returned (.tuple #[.int .u8 ((addB a b 0 cc).1.toNat : Int), .int .u8 ((addB a b 0 cc).2.toNat : Int)]) ∧ Below w.heap.size w w' := by
  have h := adderAdd_any (a.toNat : Int) (b.toNat : Int) (cc.toNat : Int) w
  rw [adderAdd_e] at h
  exact h
theorem adderAdc_e (a : UInt8) (b : UInt8) (cc : UInt8) : adderAdc (a.toNat : Int) (b.toNat : Int) (cc.toNat : Int) = (((addB a b (cc &&& 1) cc).1.toNat : Int), ((addB a b (cc &&& 1) cc).2.toNat : Int)) := by simp only [adderAdc, adder_e, and8_1, andB, orB, xorB, notB, plusW, Sp.wide]
theorem adderAdc_t (a : UInt8) (b : UInt8) (cc : UInt8) (w : World) : Calls Tryz.prog 239 #[.int .u8 (a.toNat : Int), .int .u8 (b.toNat : Int), .int .u8 (cc.toNat : Int)] w fun e w' => e = .returned (.tuple #[.int .u8 ((addB a b (cc &&& 1) cc).1.toNat : Int), .int .u8 ((addB a b (cc &&& 1) cc).2.toNat : Int)]) ∧ Below w.heap.size w w' := by
  have h := adderAdc_any (a.toNat : Int) (b.toNat : Int) (cc.toNat : Int) w
  rw [adderAdc_e] at h
  exact h
theorem taker_e (a : UInt8) (b : UInt8) (c : UInt8) (cc : UInt8) : taker (a.toNat : Int) (b.toNat : Int) (c.toNat : Int) (cc.toNat : Int) = (((subB a b c cc).1.toNat : Int), ((subB a b c cc).2.toNat : Int)) := by simp only [taker, subB, nz_e, with1_1, with1_2, with1_4, with1_8, with1_16, with1_32, with1_64, with1_128, and8_1, and8_16, and8_128, and16_128, and16_32768, ne0_8, ne0_16, eq0_8, eq0_16, and8, or8, xor8, and16, or16w, xor16, up, plus16, minus16, times16, down, gt255, lt16, halfB, doubleB, top7B, inc8, dec8, eq128, not8, add16_t, sub16_t, andB, orB, xorB, notB, plusW, Sp.wide]
theorem taker_t (a : UInt8) (b : UInt8) (c : UInt8) (cc : UInt8) (w : World) : Calls Tryz.prog 248 #[.int .u8 (a.toNat : Int), .int .u8 (b.toNat : Int), .int .u8 (c.toNat : Int), .int .u8 (cc.toNat : Int)] w fun e w' => e = .returned (.tuple #[.int .u8 ((subB a b c cc).1.toNat : Int), .int .u8 ((subB a b c cc).2.toNat : Int)]) ∧ Below w.heap.size w w' := by
  have h := taker_any (a.toNat : Int) (b.toNat : Int) (c.toNat : Int) (cc.toNat : Int) w
  rw [taker_e] at h
  exact h
theorem taker_0 (a b cc : UInt8) : taker (a.toNat : Int) (b.toNat : Int) 0 (cc.toNat : Int) = (((subB a b 0 cc).1.toNat : Int), ((subB a b 0 cc).2.toNat : Int)) := taker_e a b 0 cc
theorem taker_00 (a cc : UInt8) : taker 0 (a.toNat : Int) 0 (cc.toNat : Int) = (((subB 0 a 0 cc).1.toNat : Int), ((subB 0 a 0 cc).2.toNat : Int)) := taker_e 0 a 0 cc
theorem takerSub_e (a : UInt8) (b : UInt8) (cc : UInt8) : takerSub (a.toNat : Int) (b.toNat : Int) (cc.toNat : Int) = (((subB a b 0 cc).1.toNat : Int), ((subB a b 0 cc).2.toNat : Int)) := by simp only [takerSub, taker_0, andB, orB, xorB, notB, plusW, Sp.wide]
theorem takerSub_t (a : UInt8) (b : UInt8) (cc : UInt8) (w : World) : Calls Tryz.prog 247 #[.int .u8 (a.toNat : Int), .int .u8 (b.toNat : Int), .int .u8 (cc.toNat : Int)] w fun e w' => e = .returned (.tuple #[.int .u8 ((subB a b 0 cc).1.toNat : Int), .int .u8 ((subB a b 0 cc).2.toNat : Int)]) ∧ Below w.heap.size w w' := by
  have h := takerSub_any (a.toNat : Int) (b.toNat : Int) (cc.toNat : Int) w
  rw [takerSub_e] at h
  exact h
theorem takerSbc_e (a : UInt8) (b : UInt8) (cc : UInt8) : takerSbc (a.toNat : Int) (b.toNat : Int) (cc.toNat : Int) = (((subB a b (cc &&& 1) cc).1.toNat : Int), ((subB a b (cc &&& 1) cc).2.toNat : Int)) := by simp only [takerSbc, taker_e, and8_1, andB, orB, xorB, notB, plusW, Sp.wide]
theorem takerSbc_t (a : UInt8) (b : UInt8) (cc : UInt8) (w : World) : Calls Tryz.prog 246 #[.int .u8 (a.toNat : Int), .int .u8 (b.toNat : Int), .int .u8 (cc.toNat : Int)] w fun e w' => e = .returned (.tuple #[.int .u8 ((subB a b (cc &&& 1) cc).1.toNat : Int), .int .u8 ((subB a b (cc &&& 1) cc).2.toNat : Int)]) ∧ Below w.heap.size w w' := by
  have h := takerSbc_any (a.toNat : Int) (b.toNat : Int) (cc.toNat : Int) w
  rw [takerSbc_e] at h
  exact h
theorem takerCmp_e (a : UInt8) (b : UInt8) (cc : UInt8) : takerCmp (a.toNat : Int) (b.toNat : Int) (cc.toNat : Int) = (((subB a b 0 cc).2).toNat : Int) := by simp only [takerCmp, taker_0, andB, orB, xorB, notB, plusW, Sp.wide]
theorem takerCmp_t (a : UInt8) (b : UInt8) (cc : UInt8) (w : World) : Calls Tryz.prog 243 #[.int .u8 (a.toNat : Int), .int .u8 (b.toNat : Int), .int .u8 (cc.toNat : Int)] w fun e w' => e = .returned (.int .u8 (((subB a b 0 cc).2).toNat : Int)) ∧ Below w.heap.size w w' := by
  rw [← takerCmp_e]; exact takerCmp_any _ _ _ w
theorem takerNeg_e (a : UInt8) (cc : UInt8) : takerNeg (a.toNat : Int) (cc.toNat : Int) = (((subB 0 a 0 cc).1.toNat : Int), ((subB 0 a 0 cc).2.toNat : Int)) := by simp only [takerNeg, taker_00, andB, orB, xorB, notB, plusW, Sp.wide]
theorem takerNeg_t (a : UInt8) (cc : UInt8) (w : World) : Calls Tryz.prog 204 #[.int .u8 (a.toNat : Int), .int .u8 (cc.toNat : Int)] w fun e w' => e = .returned (.tuple #[.int .u8 ((subB 0 a 0 cc).1.toNat : Int), .int .u8 ((subB 0 a 0 cc).2.toNat : Int)]) ∧ Below w.heap.size w w' := by
  have h := takerNeg_any (a.toNat : Int) (cc.toNat : Int) w
  rw [takerNeg_e] at h
  exact h
theorem shiftR_e (a : UInt8) (t : UInt8) (cc : UInt8) : shiftR (a.toNat : Int) (t.toNat : Int) (cc.toNat : Int) = (((rightB a t cc).1.toNat : Int), ((rightB a t cc).2.toNat : Int)) := by simp only [shiftR, rightB, nz_e, with1_1, with1_2, with1_4, with1_8, with1_16, with1_32, with1_64, with1_128, and8_1, and8_16, and8_128, and16_128, and16_32768, ne0_8, ne0_16, eq0_8, eq0_16, and8, or8, xor8, and16, or16w, xor16, up, plus16, minus16, times16, down, gt255, lt16, halfB, doubleB, top7B, inc8, dec8, eq128, not8, add16_t, sub16_t, andB, orB, xorB, notB, plusW, Sp.wide]
theorem shiftR_t (a : UInt8) (t : UInt8) (cc : UInt8) (w : World) : Calls Tryz.prog 249 #[.int .u8 (a.toNat : Int), .int .u8 (t.toNat : Int), .int .u8 (cc.toNat : Int)] w fun e w' => e = .returned (.tuple #[.int .u8 ((rightB a t cc).1.toNat : Int), .int .u8 ((rightB a t cc).2.toNat : Int)]) ∧ Below w.heap.size w w' := by
  have h := shiftR_any (a.toNat : Int) (t.toNat : Int) (cc.toNat : Int) w
  rw [shiftR_e] at h
  exact h
theorem shiftL_e (a : UInt8) (l : UInt8) (cc : UInt8) : shiftL (a.toNat : Int) (l.toNat : Int) (cc.toNat : Int) = (((leftB a l cc).1.toNat : Int), ((leftB a l cc).2.toNat : Int)) := by simp only [shiftL, leftB, nz_e, with1_1, with1_2, with1_4, with1_8, with1_16, with1_32, with1_64, with1_128, and8_1, and8_16, and8_128, and16_128, and16_32768, ne0_8, ne0_16, eq0_8, eq0_16, and8, or8, xor8, and16, or16w, xor16, up, plus16, minus16, times16, down, gt255, lt16, halfB, doubleB, top7B, inc8, dec8, eq128, not8, add16_t, sub16_t, andB, orB, xorB, notB, plusW, Sp.wide]
theorem shiftL_t (a : UInt8) (l : UInt8) (cc : UInt8) (w : World) : Calls Tryz.prog 250 #[.int .u8 (a.toNat : Int), .int .u8 (l.toNat : Int), .int .u8 (cc.toNat : Int)] w fun e w' => e = .returned (.tuple #[.int .u8 ((leftB a l cc).1.toNat : Int), .int .u8 ((leftB a l cc).2.toNat : Int)]) ∧ Below w.heap.size w w' := by
  have h := shiftL_any (a.toNat : Int) (l.toNat : Int) (cc.toNat : Int) w
  rw [shiftL_e] at h
  exact h
theorem shiftR_0 (a cc : UInt8) : shiftR (a.toNat : Int) 0 (cc.toNat : Int) = (((rightB a 0 cc).1.toNat : Int), ((rightB a 0 cc).2.toNat : Int)) := shiftR_e a 0 cc
theorem shiftL_0 (a cc : UInt8) : shiftL (a.toNat : Int) 0 (cc.toNat : Int) = (((leftB a 0 cc).1.toNat : Int), ((leftB a 0 cc).2.toNat : Int)) := shiftL_e a 0 cc
theorem shiftLsr_e (a : UInt8) (cc : UInt8) : shiftLsr (a.toNat : Int) (cc.toNat : Int) = (((rightB a 0 cc).1.toNat : Int), ((rightB a 0 cc).2.toNat : Int)) := by simp only [shiftLsr, shiftR_0, andB, orB, xorB, notB, plusW, Sp.wide]
theorem shiftLsr_t (a : UInt8) (cc : UInt8) (w : World) : Calls Tryz.prog 206 #[.int .u8 (a.toNat : Int), .int .u8 (cc.toNat : Int)] w fun e w' => e = .returned (.tuple #[.int .u8 ((rightB a 0 cc).1.toNat : Int), .int .u8 ((rightB a 0 cc).2.toNat : Int)]) ∧ Below w.heap.size w w' := by
  have h := shiftLsr_any (a.toNat : Int) (cc.toNat : Int) w
  rw [shiftLsr_e] at h
  exact h
theorem shiftAsr_e (a : UInt8) (cc : UInt8) : shiftAsr (a.toNat : Int) (cc.toNat : Int) = (((rightB a (a &&& 128) cc).1.toNat : Int), ((rightB a (a &&& 128) cc).2.toNat : Int)) := by simp only [shiftAsr, shiftR_e, and8_128, andB, orB, xorB, notB, plusW, Sp.wide]
theorem shiftAsr_t (a : UInt8) (cc : UInt8) (w : World) : Calls Tryz.prog 208 #[.int .u8 (a.toNat : Int), .int .u8 (cc.toNat : Int)] w fun e w' => e = .returned (.tuple #[.int .u8 ((rightB a (a &&& 128) cc).1.toNat : Int), .int .u8 ((rightB a (a &&& 128) cc).2.toNat : Int)]) ∧ Below w.heap.size w w' := by
  have h := shiftAsr_any (a.toNat : Int) (cc.toNat : Int) w
  rw [shiftAsr_e] at h
  exact h
theorem shiftRor_e (a : UInt8) (cc : UInt8) : shiftRor (a.toNat : Int) (cc.toNat : Int) = (((rightB a ((cc &&& 1) <<< 7) cc).1.toNat : Int), ((rightB a ((cc &&& 1) <<< 7) cc).2.toNat : Int)) := by simp only [shiftRor, shiftR_e, and8_1, top7B, andB, orB, xorB, notB, plusW, Sp.wide]
theorem shiftRor_t (a : UInt8) (cc : UInt8) (w : World) : Calls Tryz.prog 207 #[.int .u8 (a.toNat : Int), .int .u8 (cc.toNat : Int)] w fun e w' => e = .returned (.tuple #[.int .u8 ((rightB a ((cc &&& 1) <<< 7) cc).1.toNat : Int), .int .u8 ((rightB a ((cc &&& 1) <<< 7) cc).2.toNat : Int)]) ∧ Below w.heap.size w w' := by
  have h := shiftRor_any (a.toNat : Int) (cc.toNat : Int) w
  rw [shiftRor_e] at h
  exact h
theorem shiftAsl_e (a : UInt8) (cc : UInt8) : shiftAsl (a.toNat : Int) (cc.toNat : Int) = (((leftB a 0 cc).1.toNat : Int), ((leftB a 0 cc).2.toNat : Int)) := by simp only [shiftAsl, shiftL_0, andB, orB, xorB, notB, plusW, Sp.wide]
theorem shiftAsl_t (a : UInt8) (cc : UInt8) (w : World) : Calls Tryz.prog 209 #[.int .u8 (a.toNat : Int), .int .u8 (cc.toNat : Int)] w fun e w' => e = .returned (.tuple #[.int .u8 ((leftB a 0 cc).1.toNat : Int), .int .u8 ((leftB a 0 cc).2.toNat : Int)]) ∧ Below w.heap.size w w' := by
  have h := shiftAsl_any (a.toNat : Int) (cc.toNat : Int) w
  rw [shiftAsl_e] at h
  exact h
theorem shiftRol_e (a : UInt8) (cc : UInt8) : shiftRol (a.toNat : Int) (cc.toNat : Int) = (((leftB a (cc &&& 1) cc).1.toNat : Int), ((leftB a (cc &&& 1) cc).2.toNat : Int)) := by simp only [shiftRol, shiftL_e, and8_1, andB, orB, xorB, notB, plusW, Sp.wide]
theorem shiftRol_t (a : UInt8) (cc : UInt8) (w : World) : Calls Tryz.prog 210 #[.int .u8 (a.toNat : Int), .int .u8 (cc.toNat : Int)] w fun e w' => e = .returned (.tuple #[.int .u8 ((leftB a (cc &&& 1) cc).1.toNat : Int), .int .u8 ((leftB a (cc &&& 1) cc).2.toNat : Int)]) ∧ Below w.heap.size w w' := by
  have h := shiftRol_any (a.toNat : Int) (cc.toNat : Int) w
  rw [shiftRol_e] at h
  exact h
theorem countInc_e (a : UInt8) (cc : UInt8) : countInc (a.toNat : Int) (cc.toNat : Int) = (((incB a cc).1.toNat : Int), ((incB a cc).2.toNat : Int)) := by simp only [countInc, incB, nz_e, with1_1, with1_2, with1_4, with1_8, with1_16, with1_32, with1_64, with1_128, and8_1, and8_16, and8_128, and16_128, and16_32768, ne0_8, ne0_16, eq0_8, eq0_16, and8, or8, xor8, and16, or16w, xor16, up, plus16, minus16, times16, down, gt255, lt16, halfB, doubleB, top7B, inc8, dec8, eq128, not8, add16_t, sub16_t, andB, orB, xorB, notB, plusW, Sp.wide]
theorem countInc_t (a : UInt8) (cc : UInt8) (w : World) : Calls Tryz.prog 212 #[.int .u8 (a.toNat : Int), .int .u8 (cc.toNat : Int)] w fun e w' => e = .returned (.tuple #[.int .u8 ((incB a cc).1.toNat : Int), .int .u8 ((incB a cc).2.toNat : Int)]) ∧ Below w.heap.size w w' := by
  have h := countInc_any (a.toNat : Int) (cc.toNat : Int) w
  rw [countInc_e] at h
  exact h
theorem countDec_e (a : UInt8) (cc : UInt8) : countDec (a.toNat : Int) (cc.toNat : Int) = (((decB a cc).1.toNat : Int), ((decB a cc).2.toNat : Int)) := by simp only [countDec, decB, nz_e, with1_1, with1_2, with1_4, with1_8, with1_16, with1_32, with1_64, with1_128, and8_1, and8_16, and8_128, and16_128, and16_32768, ne0_8, ne0_16, eq0_8, eq0_16, and8, or8, xor8, and16, or16w, xor16, up, plus16, minus16, times16, down, gt255, lt16, halfB, doubleB, top7B, inc8, dec8, eq128, not8, add16_t, sub16_t, andB, orB, xorB, notB, plusW, Sp.wide]
theorem countDec_t (a : UInt8) (cc : UInt8) (w : World) : Calls Tryz.prog 211 #[.int .u8 (a.toNat : Int), .int .u8 (cc.toNat : Int)] w fun e w' => e = .returned (.tuple #[.int .u8 ((decB a cc).1.toNat : Int), .int .u8 ((decB a cc).2.toNat : Int)]) ∧ Below w.heap.size w w' := by
  have h := countDec_any (a.toNat : Int) (cc.toNat : Int) w
  rw [countDec_e] at h
  exact h
theorem wideAdd_e (a : UInt16) (b : UInt16) (cc : UInt8) : wideAdd (a.toNat : Int) (b.toNat : Int) (cc.toNat : Int) = (((addW a b cc).1.toNat : Int), ((addW a b cc).2.toNat : Int)) := by simp only [wideAdd, addW, nzw_e, with1_1, with1_2, with1_4, with1_8, with1_16, with1_32, with1_64, with1_128, and8_1, and8_16, and8_128, and16_128, and16_32768, ne0_8, ne0_16, eq0_8, eq0_16, and8, or8, xor8, and16, or16w, xor16, up, plus16, minus16, times16, down, gt255, lt16, halfB, doubleB, top7B, inc8, dec8, eq128, not8, add16_t, sub16_t, andB, orB, xorB, notB, plusW, Sp.wide]
theorem wideAdd_t (a : UInt16) (b : UInt16) (cc : UInt8) (w : World) : Calls Tryz.prog 253 #[.int .u16 (a.toNat : Int), .int .u16 (b.toNat : Int), .int .u8 (cc.toNat : Int)] w fun e w' => e = .returned (.tuple #[.int .u16 ((addW a b cc).1.toNat : Int), .int .u8 ((addW a b cc).2.toNat : Int)]) ∧ Below w.heap.size w w' := by
  have h := wideAdd_any (a.toNat : Int) (b.toNat : Int) (cc.toNat : Int) w
  rw [wideAdd_e] at h
  exact h
theorem wideSub_e (a : UInt16) (b : UInt16) (cc : UInt8) : wideSub (a.toNat : Int) (b.toNat : Int) (cc.toNat : Int) = (((subW a b cc).1.toNat : Int), ((subW a b cc).2.toNat : Int)) := by simp only [wideSub, subW, nzw_e, with1_1, with1_2, with1_4, with1_8, with1_16, with1_32, with1_64, with1_128, and8_1, and8_16, and8_128, and16_128, and16_32768, ne0_8, ne0_16, eq0_8, eq0_16, and8, or8, xor8, and16, or16w, xor16, up, plus16, minus16, times16, down, gt255, lt16, halfB, doubleB, top7B, inc8, dec8, eq128, not8, add16_t, sub16_t, andB, orB, xorB, notB, plusW, Sp.wide]
theorem wideSub_t (a : UInt16) (b : UInt16) (cc : UInt8) (w : World) : Calls Tryz.prog 254 #[.int .u16 (a.toNat : Int), .int .u16 (b.toNat : Int), .int .u8 (cc.toNat : Int)] w fun e w' => e = .returned (.tuple #[.int .u16 ((subW a b cc).1.toNat : Int), .int .u8 ((subW a b cc).2.toNat : Int)]) ∧ Below w.heap.size w w' := by
  have h := wideSub_any (a.toNat : Int) (b.toNat : Int) (cc.toNat : Int) w
  rw [wideSub_e] at h
  exact h
theorem wideCmp_e (a : UInt16) (b : UInt16) (cc : UInt8) : wideCmp (a.toNat : Int) (b.toNat : Int) (cc.toNat : Int) = (((subW a b cc).2).toNat : Int) := by simp only [wideCmp, wideSub_e, andB, orB, xorB, notB, plusW, Sp.wide]
theorem wideCmp_t (a : UInt16) (b : UInt16) (cc : UInt8) (w : World) : Calls Tryz.prog 255 #[.int .u16 (a.toNat : Int), .int .u16 (b.toNat : Int), .int .u8 (cc.toNat : Int)] w fun e w' => e = .returned (.int .u8 (((subW a b cc).2).toNat : Int)) ∧ Below w.heap.size w w' := by
  rw [← wideCmp_e]; exact wideCmp_any _ _ _ w
theorem wideTst_e (a : UInt16) (cc : UInt8) : wideTst (a.toNat : Int) (cc.toNat : Int) = ((tstW a cc).toNat : Int) := by simp only [wideTst, tstW, nzw_e, with1_1, with1_2, with1_4, with1_8, with1_16, with1_32, with1_64, with1_128, and8_1, and8_16, and8_128, and16_128, and16_32768, ne0_8, ne0_16, eq0_8, eq0_16, and8, or8, xor8, and16, or16w, xor16, up, plus16, minus16, times16, down, gt255, lt16, halfB, doubleB, top7B, inc8, dec8, eq128, not8, add16_t, sub16_t, andB, orB, xorB, notB, plusW, Sp.wide]
theorem wideTst_t (a : UInt16) (cc : UInt8) (w : World) : Calls Tryz.prog 201 #[.int .u16 (a.toNat : Int), .int .u8 (cc.toNat : Int)] w fun e w' => e = .returned (.int .u8 ((tstW a cc).toNat : Int)) ∧ Below w.heap.size w w' := by
  rw [← wideTst_e]; exact wideTst_any _ _ w
theorem wideAbx_e (x : UInt16) (b : UInt8) : wideAbx (x.toNat : Int) (b.toNat : Int) = ((plusW x (Sp.wide b)).toNat : Int) := by simp only [wideAbx, with1_1, with1_2, with1_4, with1_8, with1_16, with1_32, with1_64, with1_128, and8_1, and8_16, and8_128, and16_128, and16_32768, ne0_8, ne0_16, eq0_8, eq0_16, and8, or8, xor8, and16, or16w, xor16, up, plus16, minus16, times16, down, gt255, lt16, halfB, doubleB, top7B, inc8, dec8, eq128, not8, add16_t, sub16_t, andB, orB, xorB, notB, plusW, Sp.wide]
theorem wideAbx_t (x : UInt16) (b : UInt8) (w : World) : Calls Tryz.prog 216 #[.int .u16 (x.toNat : Int), .int .u8 (b.toNat : Int)] w fun e w' => e = .returned (.int .u16 ((plusW x (Sp.wide b)).toNat : Int)) ∧ Below w.heap.size w w' := by
  rw [← wideAbx_e]; exact wideAbx_any _ _ w
theorem wideLea_e (x : UInt16) (cc : UInt8) : wideLea (x.toNat : Int) (cc.toNat : Int) = ((wb (x == 0) cc 4).toNat : Int) := by simp only [wideLea, with1_1, with1_2, with1_4, with1_8, with1_16, with1_32, with1_64, with1_128, and8_1, and8_16, and8_128, and16_128, and16_32768, ne0_8, ne0_16, eq0_8, eq0_16, and8, or8, xor8, and16, or16w, xor16, up, plus16, minus16, times16, down, gt255, lt16, halfB, doubleB, top7B, inc8, dec8, eq128, not8, add16_t, sub16_t, andB, orB, xorB, notB, plusW, Sp.wide]
theorem wideLea_t (x : UInt16) (cc : UInt8) (w : World) : Calls Tryz.prog 181 #[.int .u16 (x.toNat : Int), .int .u8 (cc.toNat : Int)] w fun e w' => e = .returned (.int .u8 ((wb (x == 0) cc 4).toNat : Int)) ∧ Below w.heap.size w w' := by
  rw [← wideLea_e]; exact wideLea_any _ _ w
theorem timesMul_e (a : UInt8) (b : UInt8) (cc : UInt8) : timesMul (a.toNat : Int) (b.toNat : Int) (cc.toNat : Int) = (((mulB a b cc).1.toNat : Int), ((mulB a b cc).2.toNat : Int)) := by simp only [timesMul, mulB, with1_1, with1_2, with1_4, with1_8, with1_16, with1_32, with1_64, with1_128, and8_1, and8_16, and8_128, and16_128, and16_32768, ne0_8, ne0_16, eq0_8, eq0_16, and8, or8, xor8, and16, or16w, xor16, up, plus16, minus16, times16, down, gt255, lt16, halfB, doubleB, top7B, inc8, dec8, eq128, not8, add16_t, sub16_t, andB, orB, xorB, notB, plusW, Sp.wide]
theorem timesMul_t (a : UInt8) (b : UInt8) (cc : UInt8) (w : World) : Calls Tryz.prog 219 #[.int .u8 (a.toNat : Int), .int .u8 (b.toNat : Int), .int .u8 (cc.toNat : Int)] w fun e w' => e = .returned (.tuple #[.int .u16 ((mulB a b cc).1.toNat : Int), .int .u8 ((mulB a b cc).2.toNat : Int)]) ∧ Below w.heap.size w w' := by
  have h := timesMul_any (a.toNat : Int) (b.toNat : Int) (cc.toNat : Int) w
  rw [timesMul_e] at h
  exact h
end Go.Proofs.YtkdaphkpllgmbaaGreat

/-
  Words for memory and for reading a law's arguments: slices that read as lists (any element size), values decoded out of the row's reading, and the row's last step. No function of the program.
-/
import Derived.Test.YtgebopmiefgdoaaProg
import Derived.Below
import Derived.Carry
import Derived.Laws.OwnMore
import Derived.Deep.AppendLies
import Derived.Deep.Draws
import Derived.Deep.Slices
import Derived.Deep.Fields
import Derived.ChangeSame
import Derived.ChangeArms
import Derived.ChangeOld
import Derived.OpenShut
import Derived.WideShapes
import Derived.SizedLaws
import Derived.Laws.BytesString
import Derived.Laws.Slices
import Derived.Laws.Cells
namespace Go.Proofs.Ytgebopmiefgdoaa
open Go.RowKit Go.WideShapes Go.ChangeShapes Go.Deep
set_option linter.unusedVariables false

theorem block_of_add (a : Addr) (n : Nat) : (a.add n).block = a.block := by unfold Addr.add; split <;> rfl
theorem add_pos (a : Addr) (n : Nat) (h : n ≠ 0) : a.add n = ⟨a.block, a.off + n, none⟩ := by unfold Addr.add; rw [if_neg h]
theorem add_of_add (a : Addr) (i j : Nat) : (a.add i).add j = a.add (i + j) := by
  unfold Addr.add
  by_cases hi : i = 0 <;> by_cases hj : j = 0 <;> simp [hi, hj, Nat.add_assoc]

/-- The slice value '.slice A n c' holds the cells xs (n elements of 'size' cells each), below block B. -/
def Reads (w : World) (B size : Nat) (A : Option Addr) (n : Nat) (xs : List Value) : Prop :=
  xs.length = n * size ∧ (0 < n → ∃ ad, A = some ad ∧ ad.block < B ∧ ∀ j u, xs[j]? = some u → w.cell? (ad.add j) = some u)

section
variable {w w' : World} {B B' size n : Nat} {A : Option Addr} {xs : List Value}
theorem Reads.none_ : Reads w B size A 0 [] := ⟨by simp, fun h => absurd h (by omega)⟩
theorem Reads.at_ {k : Nat} (h : Reads w B 1 A n xs) (hk : k < n) : ∃ ad u, A = some ad ∧ ad.block < B ∧ xs[k]? = some u ∧ w.cell? (ad.add k) = some u := by
  obtain ⟨ad, e, hb, hc⟩ := h.2 (by omega)
  have hl : k < xs.length := by have := h.1; omega
  exact ⟨ad, xs[k], e, hb, List.getElem?_eq_getElem hl, hc k _ (List.getElem?_eq_getElem hl)⟩
theorem Reads.keep (h : Reads w B size A n xs) (hk : ∀ p : Addr, p.block < B → w'.cell? p = w.cell? p) : Reads w' B size A n xs :=
  ⟨h.1, fun hn => by
    obtain ⟨ad, e, hb, hc⟩ := h.2 hn
    exact ⟨ad, e, hb, fun j u hu => (hk _ (by rw [block_of_add]; exact hb)).trans (hc j u hu)⟩⟩
theorem Reads.more (h : Reads w B size A n xs) (hB : B ≤ B') : Reads w B' size A n xs :=
  ⟨h.1, fun hn => by
    obtain ⟨ad, e, hb, hc⟩ := h.2 hn
    exact ⟨ad, e, by omega, hc⟩⟩
theorem Reads.below (h : Reads w B size A n xs) (hb : Below B w w') : Reads w' B size A n xs := h.keep fun _ hp => hb.cell hp
theorem Reads.cut (h : Reads w B size A n xs) {k cap : Nat} (hk : k ≤ n) (hc : n ≤ cap) :
    Reads w B size (if cap = k then A else A.map (·.add (k * size))) (n - k) (xs.drop (k * size)) := by
  refine ⟨by rw [List.length_drop, h.1, Nat.sub_mul], fun hn => ?_⟩
  obtain ⟨ad, rfl, hb, hcell⟩ := h.2 (by omega)
  rw [if_neg (by omega)]
  refine ⟨ad.add (k * size), rfl, by rw [block_of_add]; exact hb, fun j u hu => ?_⟩
  rw [add_of_add]
  exact hcell _ u (by rw [← hu, List.getElem?_drop])
theorem Reads.of_own {base : Nat} {e : TypeId} {c : Nat} (h : w.ownsRow base e size (.slice A n c) n xs) : Reads w w.heap.size size A n xs := by
  refine ⟨h.1, fun hn => ?_⟩
  obtain ⟨g, cap, hv, _, hlt⟩ := h.form hn
  have hA : A = some ⟨g, 0, none⟩ := by injection hv
  subst hA
  exact ⟨_, rfl, hlt, h.cells (g := g) rfl⟩
end

theorem below_alloc {w W : World} (h : Below w.heap.size w W) (o : Obj) : Below w.heap.size w (W.alloc o) := h.alloc h.size o
theorem below_drewN {B : Nat} {w W : World} (h : Below B w W) (n : Nat) : Below B w (W.drewN n) := ⟨h.os, h.tape, h.output, h.size, h.block⟩
theorem below_then {w w1 w2 : World} (h : Below w.heap.size w w1) (k : Below w1.heap.size w1 w2) : Below w.heap.size w w2 := h.trans (k.mono h.size)
theorem ret_int {k : IntKind} {a b : Int} (h : a = b) : Ending.returned (.int k a) = .returned (.int k b) := by rw [h]
theorem ret2_int {k : IntKind} {a b : Int} {v u : Value} (h : a = b) (h2 : v = u) : Ending.returned (.tuple #[.int k a, v]) = .returned (.tuple #[.int k b, u]) := by rw [h, h2]
theorem ret_bool {a b : Bool} (h : a = b) : Ending.returned (.bool a) = .returned (.bool b) := by rw [h]

/-- A new block of n one-cell elements. -/
theorem Reads.new1 (w : World) (t : TypeId) (cs : Array Value) (n B : Nat) (hn : cs.size = n) (hB : w.heap.size < B) : Reads (w.alloc (.cells cs t)) B 1 (some ⟨w.heap.size, 0, none⟩) n cs.toList := by
  refine ⟨by simp [hn], fun _ => ⟨_, rfl, hB, fun j u hu => ?_⟩⟩
  have e : (⟨w.heap.size, 0, none⟩ : Addr).add j = ⟨w.heap.size, j, none⟩ := by unfold Addr.add; split <;> simp_all
  rw [e, cell_of_row (w.alloc (.cells cs t)) w.heap.size j cs t (0, 0) (heap_alloc_new w _)]
  simpa using hu

/-! ### A block that is known whole -/
def Blk (w : World) (g : Nat) (t : TypeId) (cs : Array Value) : Prop := w.heap[g]? = some (.cells cs t (0, 0))
section
variable {w w' : World} {g : Nat} {t : TypeId} {cs : Array Value}
theorem Blk.lt (h : Blk w g t cs) : g < w.heap.size := by
  rcases Nat.lt_or_ge g w.heap.size with hlt | hge
  · exact hlt
  · unfold Blk at h; rw [Array.getElem?_eq_none hge] at h; cases h
theorem Blk.cell (h : Blk w g t cs) (i : Nat) : w.cell? ⟨g, i, none⟩ = cs[i]? := cell_of_row w g i cs t (0, 0) h
theorem Blk.frozen (h : Blk w g t cs) (i : Nat) : w.frozen? ⟨g, i, none⟩ = false := by
  unfold Blk at h
  simp [World.frozen?, h]
theorem Blk.new (w : World) (t : TypeId) (cs : Array Value) : Blk (w.alloc (.cells cs t)) w.heap.size t cs := heap_alloc_new w _
theorem Blk.drew (h : Blk w g t cs) : Blk w.drew g t cs := h
theorem Blk.drewN (h : Blk w g t cs) (n : Nat) : Blk (w.drewN n) g t cs := h
theorem Blk.alloc (h : Blk w g t cs) (o : Obj) : Blk (w.alloc o) g t cs := (Below.heap_alloc w o g h.lt).trans h
theorem Blk.set_ (h : Blk w g t cs) (i : Nat) (u : Value) : Blk (w.setCell ⟨g, i, none⟩ u) g t (cs.setIfInBounds i u) := by
  unfold Blk at h ⊢
  simp [World.setCell, Array.getElem?_modify, h]
theorem Blk.far (h : Blk w g t cs) {p : Addr} (hp : g ≠ p.block) (u : Value) : Blk (w.setCell p u) g t cs := (Below.heap_setCell w p u g hp).trans h
theorem Blk.below {B : Nat} (h : Blk w g t cs) (hb : Below B w w') (hg : g < B) : Blk w' g t cs := (hb.block g hg).trans h
theorem Blk.grown {row : Option Nat} (h : Blk w g t cs) (hb : w.grownBy w' row) (hg : some g ≠ row) : Blk w' g t cs := (hb.block g h.lt hg).trans h
theorem Blk.ne_ {g' : Nat} {t' : TypeId} {cs' : Array Value} (h : Blk w g t cs) (h' : Blk w g' t' cs') (hne : t ≠ t') : g ≠ g' := by
  rintro rfl
  unfold Blk at h h'
  rw [h] at h'
  injection h' with h'
  injection h' with _ ht
  exact hne ht
theorem bcell {W w1 : World} (hb : Below W.heap.size W w1) : (∀ b o, b < W.heap.size → w1.cell? ⟨b, o, none⟩ = W.cell? ⟨b, o, none⟩) ∧ (∀ b o, b < W.heap.size → w1.frozen? ⟨b, o, none⟩ = W.frozen? ⟨b, o, none⟩) :=
  ⟨fun b o h => hb.cell (p := ⟨b, o, none⟩) h, fun b o h => hb.frozen (p := ⟨b, o, none⟩) h⟩
theorem Blk.c2 {a b : Value} (h : Blk w g t #[a, b]) : w.cell? ⟨g, 0, none⟩ = some a ∧ w.cell? ⟨g, 1, none⟩ = some b := ⟨h.cell 0, h.cell 1⟩
theorem Blk.c3 {a b c : Value} (h : Blk w g t #[a, b, c]) : w.cell? ⟨g, 0, none⟩ = some a ∧ w.cell? ⟨g, 1, none⟩ = some b ∧ w.cell? ⟨g, 2, none⟩ = some c := ⟨h.cell 0, h.cell 1, h.cell 2⟩
end

/-! ### Lists of elements of several cells -/
section
variable {α : Type} {en : α → List Value} {size : Nat}
theorem flat_length (hs : ∀ y, (en y).length = size) (ys : List α) : (ys.flatMap en).length = ys.length * size := by
  induction ys with
  | nil => simp
  | cons y ys ih => simp only [List.flatMap_cons, List.length_append, hs, ih, List.length_cons, Nat.succ_mul]; omega
theorem flat_get (hs : ∀ y, (en y).length = size) (ys : List α) (i j : Nat) (y : α) (hy : ys[i]? = some y) (hj : j < size) : (ys.flatMap en)[i * size + j]? = (en y)[j]? := by
  induction ys generalizing i with
  | nil => simp at hy
  | cons z ys ih =>
    simp only [List.flatMap_cons]
    cases i with
    | zero =>
      simp at hy
      subst hy
      rw [Nat.zero_mul, Nat.zero_add, List.getElem?_append_left (by rw [hs]; exact hj)]
    | succ i =>
      simp at hy
      rw [List.getElem?_append_right (by rw [hs, Nat.succ_mul]; omega), hs]
      have e : (i + 1) * size + j - size = i * size + j := by rw [Nat.succ_mul]; omega
      rw [e]
      exact ih i hy
theorem flat_one {f : α → Value} (ys : List α) : ys.flatMap (fun y => [f y]) = ys.map f := by
  induction ys with
  | nil => rfl
  | cons y ys ih => simp [ih]
/-- Element k's own cells. -/
theorem Reads.elem {w : World} {B n : Nat} {A : Option Addr} {ys : List α} (hs : ∀ y, (en y).length = size) (h0 : 0 < size) (h : Reads w B size A n (ys.flatMap en)) {k : Nat} (hk : k < n) :
    ∃ ad y, A = some ad ∧ ad.block < B ∧ ys[k]? = some y ∧ ∀ j u, (en y)[j]? = some u → w.cell? (ad.add (k * size + j)) = some u := by
  obtain ⟨ad, e, hb, hc⟩ := h.2 (by omega)
  have hl : ys.length = n := by
    have := h.1
    rw [flat_length hs] at this
    exact Nat.eq_of_mul_eq_mul_right h0 this
  refine ⟨ad, ys[k]'(by omega), e, hb, List.getElem?_eq_getElem (by omega), fun j u hu => hc _ u ?_⟩
  have hj : j < size := by
    rw [← hs (ys[k]'(by omega))]
    exact (List.getElem?_eq_some_iff.1 hu).1
  rw [flat_get hs ys k j _ (List.getElem?_eq_getElem (by omega)) hj, hu]
theorem Reads.len {w : World} {B n : Nat} {A : Option Addr} {ys : List α} (hs : ∀ y, (en y).length = size) (h0 : 0 < size) (h : Reads w B size A n (ys.flatMap en)) : ys.length = n := by
  have := h.1
  rw [flat_length hs] at this
  exact Nat.eq_of_mul_eq_mul_right h0 this
end

/-! ### Arrays cut, bytes as a string -/
section
variable {P : Program}
theorem addr_add0 (g j : Nat) : (⟨g, 0, none⟩ : Addr).add j = ⟨g, j, none⟩ := by unfold Addr.add; split <;> simp_all
theorem addr_addn (g j i : Nat) : (⟨g, j, none⟩ : Addr).add i = ⟨g, j + i, none⟩ := by unfold Addr.add; split <;> simp_all
/-- 'arr[j:]' of an array of one-cell elements that lies in block g. -/
theorem slice_arr_from {t : TypeId} {n : Nat} (hu : P.underlying t = some (.array (P.arrayLen t) (P.elem t))) (hl : P.arrayLen t = n) (hs : ∀ w, (sizeOf (P.elem t)).run P w = .ok 1 w) (w : World) (g j : Nat) (hj : j < n) :
    (Instr.sliceAt t (.pointer (some ⟨g, 0, none⟩)) (some (.int .i64 (j : Int))) none none).run P w = .ok (.slice (some ⟨g, j, none⟩) (n - j) (n - j)) w := by
  rw [run_sliceAt_array_l w t ⟨g, 0, none⟩ hu .i64 (j : Int) (by omega) (by omega), hs, hl]
  simp only [Result.andThen, slicedAt, Int.toNat_natCast]
  rw [if_neg (by omega), Nat.mul_one, addr_add0]
theorem push_all (l : List UInt8) (s : List UInt8) : (l.map fun c : UInt8 => (c.toNat : Int)).foldl (fun (r : ByteArray) n => r.push (UInt8.ofNat n.toNat)) ⟨s.toArray⟩ = ⟨(s ++ l).toArray⟩ := by
  induction l generalizing s with
  | nil => simp
  | cons c l ih =>
    have e : (ByteArray.mk s.toArray).push (UInt8.ofNat c.toNat) = ⟨(s ++ [c]).toArray⟩ := by simp [ByteArray.push]
    simp only [List.map_cons, List.foldl_cons, Int.toNat_natCast, e, ih (s ++ [c]), List.append_assoc, List.singleton_append]
theorem conv_bytes_str {src dst e : TypeId} (hs : P.underlying src = some (.slice e)) (he : P.underlying e = some (.int .u8)) (hd : P.underlying dst = some .string) {w : World} {B : Nat} {A : Option Addr} {n : Nat} (c : Nat) {l : List UInt8}
    (hr : Reads w B 1 A n (l.map fun c : UInt8 => .int .u8 (c.toNat : Int))) : (convert src dst (.slice A n c)).run P w = .ok (.string ⟨l.toArray⟩) w := by
  rw [run_convert_bytes_string w src dst e A n c hs he hd]
  have hln : l.length = n := by simpa using hr.1
  cases A with
  | none =>
    have h0 : n = 0 := by
      rcases Nat.eq_zero_or_pos n with h | h
      · exact h
      · obtain ⟨ad, h, _⟩ := hr.2 h; cases h
    subst h0
    have : l = [] := List.eq_nil_of_length_eq_zero hln
    subst this
    rfl
  | some ad =>
    have hcells : ∀ j v, ((l.map fun c : UInt8 => (c.toNat : Int)).map (Value.int .u8))[j]? = some v → w.cell? (ad.add j) = some v := fun j v hv => by
      have hlt : 0 < n := by
        have := (List.getElem?_eq_some_iff.1 hv).1
        simp at this; omega
      obtain ⟨ad', e1, _, hc⟩ := hr.2 hlt
      obtain rfl := Option.some.inj e1
      exact hc j v (by rw [List.map_map] at hv; exact hv)
    have hl := run_loadCells_list (P := P) (w := w) ad _ hcells
    have hlen : ((l.map fun c : UInt8 => (c.toNat : Int)).map (Value.int .u8)).length = n := by simp [hln]
    rw [hlen] at hl
    rw [run_bytesToString w ad n c _ hl]
    exact congrArg (fun s => Result.ok (Value.string s) w) ((push_all l []).trans (by simp))
end

/-! ### What the arguments read as -/
/-- Values of type t are the cells 'en y' of some y that is good. -/
def Dec (P : Program) (W : World) (t : TypeId) (α : Type) (en : α → List Value) (good : α → Prop) : Prop :=
  ∀ (H : Type) (enc : TypeId × Value → H) (fuel : Nat) (cs : List Value) (x : DataW H × List MemPlace), DataW.trod enc P W 0 (fun _ => true) true fuel t cs = some x → ∃ y, cs = en y ∧ good y
section
variable {P : Program} {W : World} {t e : TypeId}
theorem dec_bool (ht : P.underlying t = some .bool) : Dec P W t Bool (fun b => [.bool b]) (fun _ => True) := fun H enc fuel cs x h => by
  obtain ⟨b, rfl, _⟩ := DataW.trod_bool ht h
  exact ⟨b, rfl, trivial⟩
theorem dec_int {k : IntKind} (ht : P.underlying t = some (.int k)) : Dec P W t Int (fun n => [.int k n]) (fun n => k.min ≤ n ∧ n ≤ k.max) := fun H enc fuel cs x h => by
  obtain ⟨n, rfl, _, hw⟩ := DataW.trod_int ht h
  exact ⟨n, rfl, by simpa [Lit.wf] using hw⟩
theorem dec_string (ht : P.underlying t = some .string) : Dec P W t ByteArray (fun s => [.string s]) (fun s => s.size ≤ maxLen) := fun H enc fuel cs x h => by
  obtain ⟨s, rfl, _, hw⟩ := DataW.trod_string ht h
  exact ⟨s, rfl, hw⟩
/-- A slice that came in: its value's three parts and its elements. -/
structure Sl (α : Type) where
  a : Option Addr
  n : Nat
  c : Nat
  ys : List α
def Sl.v {α : Type} (s : Sl α) : Value := .slice s.a s.n s.c
structure Sl.Good {α : Type} (s : Sl α) (W : World) (size : Nat) (en : α → List Value) (good : α → Prop) : Prop where
  nc : s.n ≤ s.c
  cm : s.c ≤ maxLen
  reads : Reads W W.heap.size size s.a s.n (s.ys.flatMap en)
  len : s.ys.length = s.n
  all : ∀ y ∈ s.ys, good y
theorem dec_slice {α : Type} {en : α → List Value} {good : α → Prop} {size : Nat} (ht : P.underlying t = some (.slice e)) (hc : P.cellsOf e = size) (hs0 : 0 < size) (hs : ∀ y, (en y).length = size) (he : Dec P W e α en good) :
    Dec P W t (Sl α) (fun s => [s.v]) (fun s => s.Good W size en good) := fun H enc fuel cs x h => by
  rcases open_slice ht h with ⟨rfl, _⟩ | ⟨a, len, cap, m, n, D, Pl, rfl, _, hl, hm, hmm, hx, hi⟩
  · exact ⟨⟨none, 0, 0, []⟩, rfl, ⟨by simp, by simp [maxLen], Reads.none_, rfl, by simp⟩⟩
  · have hmc : m = cap := by simpa using hmm
    subst hmc
    have hall : ∀ i, i < len → ∃ y, W.cells? 0 (a.add (i * P.cellsOf e)) (P.cellsOf e) = some (en y) ∧ good y := fun i hil => by
      obtain ⟨cs', h1, h2⟩ := hi i (by omega)
      obtain ⟨y, rfl, hy⟩ := he H enc _ _ _ h2
      exact ⟨y, h1, hy⟩
    obtain ⟨ys, hys, hyl⟩ : ∃ ys : List α, ys.length = len ∧ ∀ i y, ys[i]? = some y → W.cells? 0 (a.add (i * P.cellsOf e)) (P.cellsOf e) = some (en y) ∧ good y := by
      clear hx hi hl hm hmm h
      induction len with
      | zero => exact ⟨[], rfl, fun i y h => by simp at h⟩
      | succ len ih =>
        obtain ⟨ys, h1, h2⟩ := ih (fun i hi => hall i (by omega))
        obtain ⟨y, h3⟩ := hall len (by omega)
        refine ⟨ys ++ [y], by simp [h1], fun i z hz => ?_⟩
        rcases Nat.lt_or_ge i ys.length with hlt | hge
        · rw [List.getElem?_append_left hlt] at hz
          exact h2 i z hz
        · rw [List.getElem?_append_right hge] at hz
          have hi0 : i - ys.length = 0 := by
            rcases Nat.eq_zero_or_pos (i - ys.length) with h0 | h0
            · exact h0
            · rw [List.getElem?_eq_none (by simp only [List.length_singleton]; omega)] at hz; cases hz
          rw [hi0] at hz
          simp at hz
          subst hz
          obtain rfl : i = len := by omega
          exact h3
    have hlt : 0 < len → a.block < W.heap.size := fun h0 => by
      obtain ⟨y, h1, _⟩ := hall 0 h0
      obtain ⟨_, hlen, hcell⟩ := World.cells?_some h1
      have h2 := hcell 0 (by omega)
      have hz : (en y)[0]? = some ((en y)[0]'(by rw [hs]; exact hs0)) := List.getElem?_eq_getElem _
      rw [hz] at h2
      have h3 := World.block_lt_of_cell? W _ h2
      rwa [block_of_add, block_of_add] at h3
    refine ⟨⟨some a, len, m, ys⟩, rfl, ⟨hl, hm, ⟨by rw [flat_length hs, hys], fun h0 => ⟨a, rfl, hlt h0, fun j u hu => ?_⟩⟩, hys, fun y hy => ?_⟩⟩
    · have hjl : j < ys.length * size := by
        rw [← flat_length hs ys]
        exact (List.getElem?_eq_some_iff.1 hu).1
      have hd : j / size < ys.length := by rwa [Nat.div_lt_iff_lt_mul hs0]
      have hmo : j % size < size := Nat.mod_lt _ hs0
      have hj : j = j / size * size + j % size := by rw [Nat.mul_comm]; exact (Nat.div_add_mod j size).symm
      have h1 := (hyl (j / size) _ (List.getElem?_eq_getElem hd)).1
      obtain ⟨_, hlen, hcell⟩ := World.cells?_some h1
      have h2 := hcell (j % size) (by omega)
      rw [add_of_add, hc, ← hj] at h2
      rw [h2]
      rw [hj, flat_get hs ys _ _ _ (List.getElem?_eq_getElem hd) hmo] at hu
      exact hu
    · obtain ⟨i, hi1, rfl⟩ := List.mem_iff_getElem.1 hy
      exact (hyl i _ (List.getElem?_eq_getElem hi1)).2
/-- A struct of one-cell fields: each cell reads as its field. -/
theorem dec_struct {fs : Array Field} {H : Type} {enc : TypeId × Value → H} {fuel : Nat} {cs : List Value} {x : DataW H × List MemPlace} (ht : P.underlying t = some (.struct fs)) (hone : oneCellFields P fs = true) (hC : P.cellsOf t = fs.size)
    (h : DataW.trod enc P W 0 (fun _ => true) true fuel t cs = some x) :
    cs.length = fs.size ∧ ∀ (j : Nat) (f : Field) (c : Value), fs[j]? = some f → cs[j]? = some c → ∃ n y, DataW.trod enc P W 0 (fun _ => true) true n f.type [c] = some y := by
  obtain ⟨ys, n', hn', hy, hlen, hyl, hf⟩ := DataW.trod_struct ht h
  refine ⟨by rw [hlen, hC], fun j f c hj hc => ?_⟩
  obtain ⟨ho, hk⟩ := hone_of hone j f hj
  have hjl : j < fs.size := (Array.getElem?_eq_some_iff.1 hj).1
  have h1 := hf j f hj
  rw [ho, hk] at h1
  obtain ⟨hjc, hce⟩ := List.getElem?_eq_some_iff.1 hc
  have hone' : (cs.drop j).take 1 = [c] := by
    rw [List.drop_eq_getElem_cons hjc, hce]
    rfl
  rw [hone'] at h1
  have hys : ys[j]? = some (ys[j]'(by omega)) := List.getElem?_eq_getElem (by omega)
  exact ⟨n', _, h1.trans hys⟩
end

/-! ### An argument opened -/
section
variable {H : Type} {enc : TypeId × Value → H} {P : Program} {W : World} {base : Nat} {t : TypeId} {v : Value} {d : DataW H} {ps : List MemPlace}
theorem open1_int {k : IntKind} (ht : P.underlying t = some (.int k)) (hv : Value.okWide P W .any base t v) (h : DataW.Trod enc P W 0 (fun _ => true) true t v d ps) : ∃ n, v = .int k n ∧ k.min ≤ n ∧ n ≤ k.max := by
  obtain ⟨n, rfl⟩ := okWide_int ht hv
  obtain ⟨fuel, hf⟩ := h
  obtain ⟨y, hy, hg⟩ := dec_int ht H enc _ _ _ hf
  simp [Value.cells] at hy
  subst hy
  exact ⟨n, rfl, hg⟩
theorem open1_bool (ht : P.underlying t = some .bool) (hv : Value.okWide P W .any base t v) : ∃ b, v = .bool b := okWide_bool ht hv
theorem open1_string (ht : P.underlying t = some .string) (hv : Value.okWide P W .any base t v) (h : DataW.Trod enc P W 0 (fun _ => true) true t v d ps) : ∃ s : ByteArray, v = .string s ∧ s.size ≤ maxLen := by
  obtain ⟨n, rfl⟩ := okWide_string ht hv
  obtain ⟨fuel, hf⟩ := h
  obtain ⟨y, hy, hg⟩ := dec_string ht H enc _ _ _ hf
  simp [Value.cells] at hy
  subst hy
  exact ⟨n, rfl, hg⟩
theorem open1_slice {e : TypeId} {α : Type} {en : α → List Value} {good : α → Prop} {size : Nat} (ht : P.underlying t = some (.slice e)) (hc : P.cellsOf e = size) (hs0 : 0 < size) (hs : ∀ y, (en y).length = size) (he : Dec P W e α en good)
    (hv : Value.okWide P W .any base t v) (h : DataW.Trod enc P W 0 (fun _ => true) true t v d ps) : ∃ s : Sl α, v = s.v ∧ s.Good W size en good := by
  obtain ⟨a, l, c, rfl⟩ := okWide_slice ht hv
  obtain ⟨fuel, hf⟩ := h
  obtain ⟨y, hy, hg⟩ := dec_slice ht hc hs0 hs he H enc _ _ _ hf
  simp [Value.cells] at hy
  exact ⟨y, hy, hg⟩
theorem open1_struct {fs : Array Field} {α : Type} {en : α → List Value} {good : α → Prop} (ht : P.underlying t = some (.struct fs)) (he : Dec P W t α en good)
    (hv : Value.okWide P W .any base t v) (h : DataW.Trod enc P W 0 (fun _ => true) true t v d ps) : ∃ y : α, v = .agg (en y).toArray ∧ good y := by
  obtain ⟨cs, rfl, _⟩ := okWide_struct ht hv
  obtain ⟨fuel, hf⟩ := h
  obtain ⟨y, hy, hg⟩ := he H enc _ _ _ hf
  refine ⟨y, ?_, hg⟩
  rw [← hy]
  simp [Value.cells]
end

/-! ### The row's last step -/
section
variable {H : Type} {enc : TypeId × Value → H} {P : Program}
/-- Every argument reads as it did, where below the heap's old size nothing has turned. -/
theorem all_below (hl : laidOutB P = true) {W W' : World} (hb : Below W.heap.size W W') :
    ∀ {ts : List TypeId} {vs : List Value} {ds : List (DataW H)} {ps : List MemPlace}, (ts.all fun t => P.readableRec t && decide (t < P.types.size)) = true → DataW.TrodAll enc P W 0 (fun _ => true) true ts vs ds ps →
      DataW.TrodAll enc P W' 0 (fun b => decide (b < W.heap.size)) true ts vs ds ps
  | [], [], [], ps, _, h => h
  | [], [], _ :: _, _, _, h => h.elim
  | [], _ :: _, _, _, _, h => h.elim
  | _ :: _, [], _, _, _, h => h.elim
  | _ :: _, _ :: _, [], _, _, h => h.elim
  | t :: ts, v :: vs, d :: ds, ps, hv, h => by
    obtain ⟨p, q, h1, h2, e⟩ := h
    simp only [List.all_cons, Bool.and_eq_true, decide_eq_true_eq] at hv
    refine ⟨p, q, Below.trod hl hv.1.1 hv.1.2 h1 hb (fun x hx => ?_), all_below hl hb hv.2 h2, e⟩
    obtain ⟨m, hm⟩ := h1
    exact DataW.trod_lt m _ _ _ hm x hx
end
end Go.Proofs.Ytgebopmiefgdoaa

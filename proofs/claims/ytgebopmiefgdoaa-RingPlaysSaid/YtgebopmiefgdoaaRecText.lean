/-
  A record's text: contract of record.Text.
-/
import Derived.Test.YtgebopmiefgdoaaRec
import Derived.Lib.ConvBytes
namespace Go.Proofs.Ytgebopmiefgdoaa
open Go.RowKit
/-- Block g of w holds the bytes l, and none of these cells is frozen. -/
structure BytesAt (w : World) (g : Nat) (l : List UInt8) : Prop where
  lt : g < w.heap.size
  cell : ∀ i c, l[i]? = some c → w.cell? ⟨g, i, none⟩ = some (.int .u8 (c.toNat : Int))
  frozen : ∀ i, i < l.length → w.frozen? ⟨g, i, none⟩ = false
theorem BytesAt.below {w w' : World} {g : Nat} {l : List UInt8} (h : BytesAt w g l) (hb : Below w.heap.size w w') : BytesAt w' g l :=
  ⟨Nat.lt_of_lt_of_le h.lt hb.size, fun i c hc => (hb.cell (p := ⟨g, i, none⟩) h.lt).trans (h.cell i c hc), fun i hi => (hb.frozen (p := ⟨g, i, none⟩) h.lt).trans (h.frozen i hi)⟩
theorem BytesAt.set_ {w : World} {g : Nat} {l : List UInt8} (h : BytesAt w g l) (i : Nat) (hi : i < l.length) (c : UInt8) : BytesAt (w.setCell ⟨g, i, none⟩ (.int .u8 (c.toNat : Int))) g (l.set i c) := by
  refine ⟨by have := h.lt; simpa using this, fun j d hd => ?_, fun j hj => ?_⟩
  · by_cases hji : j = i
    · subst hji
      rw [List.getElem?_set_self hi] at hd
      injection hd with hd
      subst hd
      exact World.cell?_setCell_same _ _ _ (h.cell j _ (List.getElem?_eq_getElem hi))
    · rw [List.getElem?_set_ne (fun e => hji e.symm)] at hd
      rw [World.cell?_setCell_other _ _ _ _ (by simp)]
      exact h.cell j d hd
  · rw [List.length_set] at hj
    have := h.frozen j hj
    simpa using this
theorem run_to_bytes {P : Program} (w : World) (src dst e : TypeId) {u : TypeDesc} (hs : P.underlying src = some u) (hd : P.underlying dst = some (.slice e)) (he : P.underlying e = some (.int .u8)) (l : List UInt8) :
    ∃ C w', (convert src dst (.string ⟨l.toArray⟩)).run P w = .ok (.slice (some ⟨w.heap.size, 0, none⟩) l.length C) w' ∧ BytesAt w' w.heap.size l ∧ Below w.heap.size w w' := by
  refine ⟨_, _, Lib.run_convert_string_bytes w src dst e ⟨l.toArray⟩ hs hd he, ⟨by rw [Lib.bytesWorld_size]; omega, fun i c hc => ?_, fun i hi => ?_⟩, ⟨?_, ?_, ?_, by rw [Lib.bytesWorld_size]; omega, fun i hi => Lib.bytesWorld_at_old w e _ i hi⟩⟩
  · obtain ⟨h1, rfl⟩ := List.getElem?_eq_some_iff.1 hc
    rw [Lib.bytesWorld_cell w e ⟨l.toArray⟩ i (by simpa [ByteArray.size_mk'] using h1)]
    simp [List.getD, h1]
  · have h := Lib.bytesWorld_at_new w e ⟨l.toArray⟩
    have hsz : l.length ≤ (Lib.bytesCells w e ⟨l.toArray⟩).size := by simp [Lib.bytesCells]
    simp only [World.frozen?, h]
    simp
    omega
  all_goals simp [Lib.bytesWorld, World.freeze, World.alloc, World.drew, -World.alloc_eq, -World.drew_eq]
theorem wp_to_bytes {P : Program} {w : World} {o : Oper} {a : Act} {K : Act → World → Prop} {Q : Exit → Act → World → Prop} (src dst e : TypeId) {u : TypeDesc} (x : Operand) (ho : o.op = .convert src dst x)
    (hs : P.underlying src = some u) (hd : P.underlying dst = some (.slice e)) (he : P.underlying e = some (.int .u8)) (l : List UInt8) (hx : a.eval x = .string ⟨l.toArray⟩)
    (h : ∀ C w', BytesAt w' w.heap.size l → Below w.heap.size w w' → K (a.put o.dst (.slice (some ⟨w.heap.size, 0, none⟩) l.length C)) w') : o.wp P a w K Q := by
  obtain ⟨C, w', hrun, h1, h2⟩ := run_to_bytes (P := P) w src dst e hs hd he l
  unfold Oper.wp execOp
  simp only [ho, hx, Sem.run_bind, hrun, Result.andThen_ok, Sem.run_pure]
  exact h C w' h1 h2
theorem wpList_to_bytes {P : Program} {w : World} {ops : Array Oper} {rest : List Oper} {o : Oper} {a : Act} {Q : Exit → Act → World → Prop} (hgd : o.guard = none) (src dst e : TypeId) {u : TypeDesc} (x : Operand) (ho : o.op = .convert src dst x)
    (hs : P.underlying src = some u) (hd : P.underlying dst = some (.slice e)) (he : P.underlying e = some (.int .u8)) (l : List UInt8) (hx : a.eval x = .string ⟨l.toArray⟩)
    (h : ∀ C w', BytesAt w' w.heap.size l → Below w.heap.size w w' → wpList P ops Q rest (a.put o.dst (.slice (some ⟨w.heap.size, 0, none⟩) l.length C)) w') : wpList P ops Q (o :: rest) a w :=
  wpList_plain hgd fun _ hK => wp_to_bytes src dst e x ho hs hd he l hx fun C w' h1 h2 => hK _ _ (h C w' h1 h2)
theorem step_to_bytes {P : Program} {w : World} {ops : Array Oper} {o : Oper} {a : Act} {K : Act → World → Prop} {Q : Exit → Act → World → Prop} {E : Prop} (hgd : o.guard = none) (src dst e : TypeId) {u : TypeDesc} (x : Operand) (ho : o.op = .convert src dst x)
    (hs : P.underlying src = some u) (hd : P.underlying dst = some (.slice e)) (he : P.underlying e = some (.int .u8)) (l : List UInt8) (hx : a.eval x = .string ⟨l.toArray⟩)
    (h : ∀ C w', BytesAt w' w.heap.size l → Below w.heap.size w w' → K (a.put o.dst (.slice (some ⟨w.heap.size, 0, none⟩) l.length C)) w') :
    if Region.wanted o (yielded ops a.tmps) = true then Oper.wp P o a w K Q else E := by
  have hw : Region.wanted o (yielded ops a.tmps) = true := by simp [Region.wanted, hgd]
  rw [if_pos hw]
  exact wp_to_bytes src dst e x ho hs hd he l hx h
def sg (b : Bool) (x y : UInt8) : UInt8 := if b then x else y
/-- A record's text, its digits given. -/
def txt (x0 x1 x2 x3 y0 y1 : UInt8) (b0 b1 b2 b3 b4 b5 b6 : Bool) : List UInt8 := [x0, x1, x2, x3, 32, y0, y1, 32, sg b0 82 87, 32, sg b1 65 45, sg b2 83 45, sg b3 76 45, sg b4 86 45, sg b5 66 45, 32, sg b6 77 45]
/-- A record's text. -/
def recL (a d : Nat) (b0 b1 b2 b3 b4 b5 b6 : Bool) : List UInt8 :=
  txt (dig (a / 16 ^ 3 % 16)) (dig (a / 16 ^ 2 % 16)) (dig (a / 16 ^ 1 % 16)) (dig (a / 16 ^ 0 % 16)) (dig (d / 16)) (dig (d % 16)) b0 b1 b2 b3 b4 b5 b6
theorem hex4 (a : Nat) : ndig 16 4 a = [dig (a / 16 ^ 3 % 16), dig (a / 16 ^ 2 % 16), dig (a / 16 ^ 1 % 16), dig (a / 16 ^ 0 % 16)] := rfl
theorem Hex4_any (a : Nat) (w : World) (ha : a < 65536) :
    Calls Try.prog 74 #[.int .u64 a, .int .i64 4] w fun e w' => e = .returned (.string ⟨#[dig (a / 16 ^ 3 % 16), dig (a / 16 ^ 2 % 16), dig (a / 16 ^ 1 % 16), dig (a / 16 ^ 0 % 16)]⟩) ∧ Below w.heap.size w w' := by
  have h := Hex_any a 4 w (by omega) (by omega) (by omega)
  have e : kd 16 a (min 4 16 : Int).toNat = 4 := kd4 a ha
  rw [e] at h
  exact h
theorem Pair1_any (d g : Nat) (w : World) (hd : d < 256) (hc : w.cell? ⟨g, 0, none⟩ = some (.int .u8 (d : Int))) (hg : g < w.heap.size) :
    Calls Try.prog 32 #[.slice (some ⟨g, 0, none⟩) 1 1] w fun e w' => e = .returned (.string ⟨#[dig (d / 16), dig (d % 16)]⟩) ∧ Below w.heap.size w w' := by
  have e : (UInt8.ofNat d).toNat = d := by rw [UInt8.toNat_ofNat']; omega
  have h := Pairs_any [UInt8.ofNat d] (some ⟨g, 0, none⟩) 1 1 w.heap.size w (Nat.le_refl _) ⟨rfl, fun _ => ⟨_, rfl, hg, fun j u hu => by
    rcases j with _ | j
    · simp only [bytesV, List.map_cons, List.map_nil, List.getElem?_cons_zero] at hu
      injection hu with hu
      subst hu
      rw [e]
      exact hc
    · simp [bytesV] at hu⟩⟩ (by omega)
  have e2 : pairsL [UInt8.ofNat d] = [dig (d / 16), dig (d % 16)] := by simp [pairsL, e]
  rw [e2] at h
  exact h
end Go.Proofs.Ytgebopmiefgdoaa

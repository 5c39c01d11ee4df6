/-
  Contract of differ.Fields.
-/
import Derived.Test.YtgebopmiefgdoaaFields
namespace Go.Proofs.Ytgebopmiefgdoaa
open Go.RowKit
/-- The names of what two records differ in. -/
def namesB (x y : Rec) : List ByteArray := (((((((((([] : List ByteArray) ++ if (x.addr != y.addr) then [⟨#[65, 68, 68, 82]⟩] else []) ++ if (x.data != y.data) then [⟨#[68, 65, 84, 65]⟩] else []) ++ if (!(x.read == y.read)) then [⟨#[82, 69, 65, 68]⟩] else []) ++ if (!(x.ba == y.ba)) then [⟨#[66, 65]⟩] else []) ++ if (!(x.bs == y.bs)) then [⟨#[66, 83]⟩] else []) ++ if (!(x.lic == y.lic)) then [⟨#[76, 73, 67]⟩] else []) ++ if (!(x.avma == y.avma)) then [⟨#[65, 86, 77, 65]⟩] else []) ++ if (!(x.busy == y.busy)) then [⟨#[66, 85, 83, 89]⟩] else []) ++ if (!(x.mine == y.mine)) then [⟨#[77, 73, 78, 69]⟩] else [])
def fieldsL (x y : Rec) : List UInt8 := Lib.join ((namesB x y).map (·.data.toList)) [32]
theorem names_len (l : List ByteArray) (u : Bool) (s : ByteArray) (k : Nat) (h : l.length ≤ k) : (l ++ if u then [s] else []).length ≤ k + 1 := by
  cases u <;> simp <;> omega
theorem Join_any (l : List ByteArray) (B g : Nat) (w : World) (hO : OutAt B g l w) (hB : B ≤ w.heap.size) (hl : l.length ≤ 100) (hj : (Lib.join (l.map (·.data.toList)) [32]).length ≤ 140737488355328) :
    ∃ v, w.cell? ⟨g, 0, none⟩ = some v ∧ Calls Try.prog 127 #[v, .string ⟨#[32]⟩] w fun e w' => e = .returned (.string ⟨(Lib.join (l.map (·.data.toList)) [32]).toArray⟩) ∧ Below w.heap.size w w' := by
  obtain ⟨v, hblk, hown, hne, hBg⟩ := hO
  refine ⟨v, hblk.cell 0, ?_⟩
  rcases hown.2 with ⟨rfl, hnil⟩ | ⟨b, cap, cur, rfl, hBb, hb, hlc, hm, hcells⟩
  · obtain rfl : l = [] := List.eq_nil_of_length_eq_zero hnil
    refine (Try.strings_Join_none none 0 ⟨#[32]⟩ w).mono ?_
    rintro e w' ⟨rfl, rfl⟩
    exact ⟨rfl, Below.refl _ _⟩
  · have hr := Reads.of_own hown
    obtain ⟨hrl, hrc⟩ := hr
    have hlen : l.length ≤ cap := hlc
    have hlt : b < w.heap.size := by
      rcases Nat.lt_or_ge b w.heap.size with h | h
      · exact h
      · rw [Array.getElem?_eq_none h] at hb; cases hb
    refine (Try.strings_Join b 0 cap l ⟨#[32]⟩ w (fun j x hx => ?_) hlt (by omega) hlen hj).mono ?_
    · have h0 : 0 < l.length := by
        obtain ⟨h, _⟩ := List.getElem?_eq_some_iff.1 hx
        omega
      obtain ⟨ad, e, _, hcell⟩ := hrc h0
      obtain rfl := Option.some.inj e
      have h := hcell j (.string x) (by rw [strsV, List.getElem?_map, hx]; rfl)
      rw [addr_add0] at h
      rw [Nat.zero_add]
      exact h
    · rintro e w' ⟨rfl, h⟩
      exact ⟨rfl, h⟩
theorem join_short (l : List (List UInt8)) (h : ∀ x ∈ l, x.length ≤ 8) (hn : l.length ≤ 100) : (Lib.join l [32]).length ≤ 900 := by
  have hl : ∀ l : List (List UInt8), (∀ x ∈ l, x.length ≤ 8) → Lib.lens l ≤ 8 * l.length := by
    intro l h
    induction l with
    | nil => simp [Lib.lens]
    | cons x l ih =>
      have h1 := ih fun y hy => h y (List.mem_cons_of_mem _ hy)
      have h2 := h x List.mem_cons_self
      simp only [Lib.lens, List.map_cons, List.sum_cons, List.length_cons] at *
      omega
  cases l with
  | nil => simp [Lib.join_nil]
  | cons x l =>
    rw [Lib.join_length]
    have := hl (x :: l) h
    simp only [List.length_cons, List.length_nil] at *
    omega
theorem namesB_short (x y : Rec) : (∀ z ∈ (namesB x y).map (·.data.toList), z.length ≤ 8) ∧ (namesB x y).length ≤ 9 := by
  unfold namesB
  generalize (x.addr != y.addr) = u0
  generalize (x.data != y.data) = u1
  generalize (!(x.read == y.read)) = u2
  generalize (!(x.ba == y.ba)) = u3
  generalize (!(x.bs == y.bs)) = u4
  generalize (!(x.lic == y.lic)) = u5
  generalize (!(x.avma == y.avma)) = u6
  generalize (!(x.busy == y.busy)) = u7
  generalize (!(x.mine == y.mine)) = u8
  constructor
  · intro z hz
    rw [List.mem_map] at hz
    obtain ⟨b, hb, rfl⟩ := hz
    simp only [List.mem_append, List.not_mem_nil, false_or] at hb
    have hq : ∀ (u : Bool) (n : ByteArray), b ∈ (if u then [n] else []) → b = n := fun u n h => by cases u <;> simp at h; exact h
    rcases hb with ((((((((h | h) | h) | h) | h) | h) | h) | h) | h)
    all_goals (obtain rfl := hq _ _ h; decide)
  · refine Nat.le_trans (names_len _ _ _ 8 ?_) (Nat.le_refl _)
    refine names_len _ _ _ 7 ?_
    refine names_len _ _ _ 6 ?_
    refine names_len _ _ _ 5 ?_
    refine names_len _ _ _ 4 ?_
    refine names_len _ _ _ 3 ?_
    refine names_len _ _ _ 2 ?_
    refine names_len _ _ _ 1 ?_
    exact names_len _ _ _ 0 (Nat.le_refl _)
theorem fieldsL_len (x y : Rec) : (fieldsL x y).length ≤ 900 := join_short _ (namesB_short x y).1 (by rw [List.length_map]; have := (namesB_short x y).2; omega)
set_option maxRecDepth 100000 in
set_option maxHeartbeats 8000000 in
theorem Fields_any (x y : Rec) (w : World) :
    Calls Try.prog 104 #[.agg #[.int .u16 x.addr, .int .u8 x.data, .bool x.read, .bool x.ba, .bool x.bs, .bool x.lic, .bool x.avma, .bool x.busy, .bool x.mine], .agg #[.int .u16 y.addr, .int .u8 y.data, .bool y.read, .bool y.ba, .bool y.bs, .bool y.lic, .bool y.avma, .bool y.busy, .bool y.mine]] w fun e w' => e = .returned (.string ⟨(fieldsL x y).toArray⟩) ∧ Below w.heap.size w w' := by
  go_enter Try.func104, Try.ntmps104
  go_wp2_with fail
  have bx : Blk (((w.alloc (.cells #[.int .u16 x.addr, .int .u8 x.data, .bool x.read, .bool x.ba, .bool x.bs, .bool x.lic, .bool x.avma, .bool x.busy, .bool x.mine] 64)).alloc (.cells #[.int .u16 y.addr, .int .u8 y.data, .bool y.read, .bool y.ba, .bool y.bs, .bool y.lic, .bool y.avma, .bool y.busy, .bool y.mine] 64)).alloc (.cells #[.slice none 0 0] 177)) w.heap.size 64 #[.int .u16 x.addr, .int .u8 x.data, .bool x.read, .bool x.ba, .bool x.bs, .bool x.lic, .bool x.avma, .bool x.busy, .bool x.mine] := ((Blk.new w _ _).alloc _).alloc _
  have by_ : Blk (((w.alloc (.cells #[.int .u16 x.addr, .int .u8 x.data, .bool x.read, .bool x.ba, .bool x.bs, .bool x.lic, .bool x.avma, .bool x.busy, .bool x.mine] 64)).alloc (.cells #[.int .u16 y.addr, .int .u8 y.data, .bool y.read, .bool y.ba, .bool y.bs, .bool y.lic, .bool y.avma, .bool y.busy, .bool y.mine] 64)).alloc (.cells #[.slice none 0 0] 177)) (w.heap.size + 1) 64 #[.int .u16 y.addr, .int .u8 y.data, .bool y.read, .bool y.ba, .bool y.bs, .bool y.lic, .bool y.avma, .bool y.busy, .bool y.mine] := by
    have h := (Blk.new (w.alloc (.cells #[.int .u16 x.addr, .int .u8 x.data, .bool x.read, .bool x.ba, .bool x.bs, .bool x.lic, .bool x.avma, .bool x.busy, .bool x.mine] 64)) 64 #[.int .u16 y.addr, .int .u8 y.data, .bool y.read, .bool y.ba, .bool y.bs, .bool y.lic, .bool y.avma, .bool y.busy, .bool y.mine]).alloc (.cells #[.slice none 0 0] 177)
    simpa using h
  have hO : OutAt (w.heap.size + 2) (w.heap.size + 1 + 1) [] (((w.alloc (.cells #[.int .u16 x.addr, .int .u8 x.data, .bool x.read, .bool x.ba, .bool x.bs, .bool x.lic, .bool x.avma, .bool x.busy, .bool x.mine] 64)).alloc (.cells #[.int .u16 y.addr, .int .u8 y.data, .bool y.read, .bool y.ba, .bool y.bs, .bool y.lic, .bool y.avma, .bool y.busy, .bool y.mine] 64)).alloc (.cells #[.slice none 0 0] 177)) := by
    refine ⟨.slice none 0 0, ?_, own_nil _ _ _ _, by simp [Value.ownBlock], by omega⟩
    have h := Blk.new ((w.alloc (.cells #[.int .u16 x.addr, .int .u8 x.data, .bool x.read, .bool x.ba, .bool x.bs, .bool x.lic, .bool x.avma, .bool x.busy, .bool x.mine] 64)).alloc (.cells #[.int .u16 y.addr, .int .u8 y.data, .bool y.read, .bool y.ba, .bool y.bs, .bool y.lic, .bool y.avma, .bool y.busy, .bool y.mine] 64)) 177 #[.slice none 0 0]
    simpa using h
  have hbl : Below w.heap.size w (((w.alloc (.cells #[.int .u16 x.addr, .int .u8 x.data, .bool x.read, .bool x.ba, .bool x.bs, .bool x.lic, .bool x.avma, .bool x.busy, .bool x.mine] 64)).alloc (.cells #[.int .u16 y.addr, .int .u8 y.data, .bool y.read, .bool y.ba, .bool y.bs, .bool y.lic, .bool y.avma, .bool y.busy, .bool y.mine] 64)).alloc (.cells #[.slice none 0 0] 177)) := below_alloc (below_alloc (below_alloc (Below.refl _ _) _) _) _
  have hsz : w.heap.size + 2 ≤ (((w.alloc (.cells #[.int .u16 x.addr, .int .u8 x.data, .bool x.read, .bool x.ba, .bool x.bs, .bool x.lic, .bool x.avma, .bool x.busy, .bool x.mine] 64)).alloc (.cells #[.int .u16 y.addr, .int .u8 y.data, .bool y.read, .bool y.ba, .bool y.bs, .bool y.lic, .bool y.avma, .bool y.busy, .bool y.mine] 64)).alloc (.cells #[.slice none 0 0] 177)).heap.size := by simp
  generalize (((w.alloc (.cells #[.int .u16 x.addr, .int .u8 x.data, .bool x.read, .bool x.ba, .bool x.bs, .bool x.lic, .bool x.avma, .bool x.busy, .bool x.mine] 64)).alloc (.cells #[.int .u16 y.addr, .int .u8 y.data, .bool y.read, .bool y.ba, .bool y.bs, .bool y.lic, .bool y.avma, .bool y.busy, .bool y.mine] 64)).alloc (.cells #[.slice none 0 0] 177)) = W0 at *
  refine (note_any (w.heap.size + 2) (w.heap.size + 1 + 1) _ _ _ W0 hO hsz (by simp)).mono ?_
  rintro e W1 ⟨rfl, hO0, hb0⟩
  replace hO := hO0
  clear hO0
  replace bx := bx.below hb0 (by omega)
  replace by_ := by_.below hb0 (by omega)
  replace hbl := hbl.trans (hb0.mono (by omega))
  replace hsz := Nat.le_trans hsz hb0.size
  clear hb0
  have cx := bx.cell 1
  have cy := by_.cell 1
  simp only [List.getElem?_toArray, List.getElem?_cons_zero, List.getElem?_cons_succ] at cx cy
  go_wp2_with fail
  clear cx cy
  refine (note_any (w.heap.size + 2) (w.heap.size + 1 + 1) _ _ _ W1 hO hsz (Nat.le_trans (names_len _ _ _ 0 (Nat.le_refl _)) (by omega))).mono ?_
  rintro e W2 ⟨rfl, hO1, hb1⟩
  replace hO := hO1
  clear hO1
  replace bx := bx.below hb1 (by omega)
  replace by_ := by_.below hb1 (by omega)
  replace hbl := hbl.trans (hb1.mono (by omega))
  replace hsz := Nat.le_trans hsz hb1.size
  clear hb1
  have cx := bx.cell 2
  have cy := by_.cell 2
  simp only [List.getElem?_toArray, List.getElem?_cons_zero, List.getElem?_cons_succ] at cx cy
  go_wp2_with fail
  clear cx cy
  refine (note_any (w.heap.size + 2) (w.heap.size + 1 + 1) _ _ _ W2 hO hsz (Nat.le_trans (names_len _ _ _ 1 (names_len _ _ _ 0 (Nat.le_refl _))) (by omega))).mono ?_
  rintro e W3 ⟨rfl, hO2, hb2⟩
  replace hO := hO2
  clear hO2
  replace bx := bx.below hb2 (by omega)
  replace by_ := by_.below hb2 (by omega)
  replace hbl := hbl.trans (hb2.mono (by omega))
  replace hsz := Nat.le_trans hsz hb2.size
  clear hb2
  have cx := bx.cell 3
  have cy := by_.cell 3
  simp only [List.getElem?_toArray, List.getElem?_cons_zero, List.getElem?_cons_succ] at cx cy
  go_wp2_with fail
  clear cx cy
  refine (note_any (w.heap.size + 2) (w.heap.size + 1 + 1) _ _ _ W3 hO hsz (Nat.le_trans (names_len _ _ _ 2 (names_len _ _ _ 1 (names_len _ _ _ 0 (Nat.le_refl _)))) (by omega))).mono ?_
  rintro e W4 ⟨rfl, hO3, hb3⟩
  replace hO := hO3
  clear hO3
  replace bx := bx.below hb3 (by omega)
  replace by_ := by_.below hb3 (by omega)
  replace hbl := hbl.trans (hb3.mono (by omega))
  replace hsz := Nat.le_trans hsz hb3.size
  clear hb3
  have cx := bx.cell 4
  have cy := by_.cell 4
  simp only [List.getElem?_toArray, List.getElem?_cons_zero, List.getElem?_cons_succ] at cx cy
  go_wp2_with fail
  clear cx cy
  refine (note_any (w.heap.size + 2) (w.heap.size + 1 + 1) _ _ _ W4 hO hsz (Nat.le_trans (names_len _ _ _ 3 (names_len _ _ _ 2 (names_len _ _ _ 1 (names_len _ _ _ 0 (Nat.le_refl _))))) (by omega))).mono ?_
  rintro e W5 ⟨rfl, hO4, hb4⟩
  replace hO := hO4
  clear hO4
  replace bx := bx.below hb4 (by omega)
  replace by_ := by_.below hb4 (by omega)
  replace hbl := hbl.trans (hb4.mono (by omega))
  replace hsz := Nat.le_trans hsz hb4.size
  clear hb4
  have cx := bx.cell 5
  have cy := by_.cell 5
  simp only [List.getElem?_toArray, List.getElem?_cons_zero, List.getElem?_cons_succ] at cx cy
  go_wp2_with fail
  clear cx cy
  refine (note_any (w.heap.size + 2) (w.heap.size + 1 + 1) _ _ _ W5 hO hsz (Nat.le_trans (names_len _ _ _ 4 (names_len _ _ _ 3 (names_len _ _ _ 2 (names_len _ _ _ 1 (names_len _ _ _ 0 (Nat.le_refl _)))))) (by omega))).mono ?_
  rintro e W6 ⟨rfl, hO5, hb5⟩
  replace hO := hO5
  clear hO5
  replace bx := bx.below hb5 (by omega)
  replace by_ := by_.below hb5 (by omega)
  replace hbl := hbl.trans (hb5.mono (by omega))
  replace hsz := Nat.le_trans hsz hb5.size
  clear hb5
  have cx := bx.cell 6
  have cy := by_.cell 6
  simp only [List.getElem?_toArray, List.getElem?_cons_zero, List.getElem?_cons_succ] at cx cy
  go_wp2_with fail
  clear cx cy
  refine (note_any (w.heap.size + 2) (w.heap.size + 1 + 1) _ _ _ W6 hO hsz (Nat.le_trans (names_len _ _ _ 5 (names_len _ _ _ 4 (names_len _ _ _ 3 (names_len _ _ _ 2 (names_len _ _ _ 1 (names_len _ _ _ 0 (Nat.le_refl _))))))) (by omega))).mono ?_
  rintro e W7 ⟨rfl, hO6, hb6⟩
  replace hO := hO6
  clear hO6
  replace bx := bx.below hb6 (by omega)
  replace by_ := by_.below hb6 (by omega)
  replace hbl := hbl.trans (hb6.mono (by omega))
  replace hsz := Nat.le_trans hsz hb6.size
  clear hb6
  have cx := bx.cell 7
  have cy := by_.cell 7
  simp only [List.getElem?_toArray, List.getElem?_cons_zero, List.getElem?_cons_succ] at cx cy
  go_wp2_with fail
  clear cx cy
  refine (note_any (w.heap.size + 2) (w.heap.size + 1 + 1) _ _ _ W7 hO hsz (Nat.le_trans (names_len _ _ _ 6 (names_len _ _ _ 5 (names_len _ _ _ 4 (names_len _ _ _ 3 (names_len _ _ _ 2 (names_len _ _ _ 1 (names_len _ _ _ 0 (Nat.le_refl _)))))))) (by omega))).mono ?_
  rintro e W8 ⟨rfl, hO7, hb7⟩
  replace hO := hO7
  clear hO7
  replace bx := bx.below hb7 (by omega)
  replace by_ := by_.below hb7 (by omega)
  replace hbl := hbl.trans (hb7.mono (by omega))
  replace hsz := Nat.le_trans hsz hb7.size
  clear hb7
  have cx := bx.cell 8
  have cy := by_.cell 8
  simp only [List.getElem?_toArray, List.getElem?_cons_zero, List.getElem?_cons_succ] at cx cy
  go_wp2_with fail
  clear cx cy
  refine (note_any (w.heap.size + 2) (w.heap.size + 1 + 1) _ _ _ W8 hO hsz (Nat.le_trans (names_len _ _ _ 7 (names_len _ _ _ 6 (names_len _ _ _ 5 (names_len _ _ _ 4 (names_len _ _ _ 3 (names_len _ _ _ 2 (names_len _ _ _ 1 (names_len _ _ _ 0 (Nat.le_refl _))))))))) (by omega))).mono ?_
  rintro e W9 ⟨rfl, hO8, hb8⟩
  replace hO := hO8
  clear hO8
  replace bx := bx.below hb8 (by omega)
  replace by_ := by_.below hb8 (by omega)
  replace hbl := hbl.trans (hb8.mono (by omega))
  replace hsz := Nat.le_trans hsz hb8.size
  clear hb8
  have hNB := namesB_short x y
  obtain ⟨v, hv, hJ⟩ := Join_any (namesB x y) (w.heap.size + 2) (w.heap.size + 1 + 1) W9 hO hsz (by omega) (Nat.le_trans (fieldsL_len x y) (by omega))
  have HJ := Lib.hid hJ
  clear hJ hO
  go_wp2_with fail
  refine HJ.out.mono ?_
  rintro e w9 ⟨rfl, hb9⟩
  go_wp2
  go_ret
  exact ⟨rfl, below_then hbl hb9⟩
end Go.Proofs.Ytgebopmiefgdoaa

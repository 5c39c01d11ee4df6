/-
  Plain laws for the law's own row; the slice operations it uses.
-/
import Derived.Test.YtgebopmiefgdoaaRing8
namespace Go.Proofs.Ytgebopmiefgdoaa
open Go.RowKit
theorem add_elemR (ad : Addr) (m : Nat) : (⟨(ad.add m).block, (ad.add m).off + 1, none⟩ : Addr) = ad.add (m + 1) := by
  unfold Addr.add
  by_cases h : m = 0 <;> simp [h, Nat.add_assoc]
/-- The last so many. -/
def lastN (high : Nat) (M : List Rec) : List Rec := M.drop (M.length - high)
theorem lastN_len (high : Nat) (M : List Rec) : (lastN high M).length = min M.length high := by
  unfold lastN
  rw [List.length_drop]
  omega
theorem lastN_self (high : Nat) (M : List Rec) (h : M.length ≤ high) : lastN high M = M := by
  unfold lastN
  rw [show M.length - high = 0 by omega, List.drop_zero]
theorem pushL_lastN (high : Nat) (h1 : 1 ≤ high) (M : List Rec) (x : Rec) : pushL high (lastN high M) x = lastN high (M ++ [x]) := by
  unfold pushL
  rw [lastN_len]
  by_cases h : M.length < high
  · rw [if_pos (by omega), lastN_self high M (by omega), lastN_self high _ (by rw [List.length_append]; simp; omega)]
  · rw [if_neg (by omega)]
    unfold lastN
    rw [List.drop_drop, List.length_append, List.drop_append_of_le_length (by simp; omega)]
    congr 2
    simp
    omega
theorem fold_lastN (high : Nat) (h1 : 1 ≤ high) (M xs : List Rec) : xs.foldl (pushL high) (lastN high M) = lastN high (M ++ xs) := by
  induction xs generalizing M with
  | nil => simp
  | cons x xs ih => rw [List.foldl_cons, pushL_lastN high h1, ih, List.append_assoc]; rfl
theorem fold_push (high : Nat) (h1 : 1 ≤ high) (L xs : List Rec) (hL : L.length ≤ high) : xs.foldl (pushL high) L = lastN high (L ++ xs) := by
  rw [← fold_lastN high h1, lastN_self high L hL]
theorem lastR_next (L : List Rec) (p : Rec → Bool) (j : Nat) (x : Rec) (h : L[j]? = some x) : lastR (L.take (j + 1)) p = if p x = true then (x, true) else lastR (L.take j) p := by
  unfold lastR
  rw [List.take_add_one, h]
  simp only [Option.toList_some, List.reverse_append, List.reverse_cons, List.reverse_nil, List.nil_append, List.singleton_append, List.find?_cons]
  cases p x <;> simp
theorem lastR_nil (p : Rec → Bool) : lastR [] p = (rec0, false) := rfl
theorem rec_drop (L : List Rec) (d : Nat) : (recsV L).drop (d * 9) = recsV (L.drop d) := by
  induction d generalizing L with
  | zero => simp
  | succ d ih =>
    cases L with
    | nil => simp [recsV]
    | cons y L =>
      have hl : y.cells.length = 9 := rfl
      show (y.cells ++ recsV L).drop ((d + 1) * 9) = _
      rw [List.drop_append, List.drop_of_length_le (by rw [hl]; omega), List.nil_append, hl, show (d + 1) * 9 - 9 = d * 9 by omega, ih]
      rfl
/-- l[d:] -/
theorem slice_tail (A : Option Addr) (n c d : Nat) (h : d ≤ n) (W : World) : (Instr.slice 57 (.slice A n c) (some (.int .i64 (d : Int))) none none).run Try.prog W = .ok (.slice (if c = d then A else A.map (·.add (d * 9))) (n - d) (c - d)) W := by
  have hu : Try.prog.underlying 57 = some (.slice (Try.prog.elem 57)) := by kernel_rfl
  have hs : (sizeOf (Try.prog.elem 57)).run Try.prog W = .ok 9 W := by kernel_rfl
  rw [run_slice_l W 57 A n c hu .i64 _ (by omega) (by omega), hs]
  simp only [Result.andThen, sliced, Int.toNat_natCast]
/-- l[:m] -/
theorem slice_head (A : Option Addr) (n c m : Nat) (h : m ≤ c) (W : World) : (Instr.slice 57 (.slice A n c) none (some (.int .i64 (m : Int))) none).run Try.prog W = .ok (.slice A m c) W := by
  have hu : Try.prog.underlying 57 = some (.slice (Try.prog.elem 57)) := by kernel_rfl
  have hs : (sizeOf (Try.prog.elem 57)).run Try.prog W = .ok 9 W := by kernel_rfl
  rw [run_slice_h W 57 A n c hu .i64 _ (by omega) (by omega), hs]
  have e : (if c = 0 then A else A.map (·.add (0 * 9))) = A := by
    split
    · rfl
    · cases A with
      | none => rfl
      | some a => simp [Addr.add]
  simp only [Result.andThen, sliced, Int.toNat_natCast, e, Nat.sub_zero]
/-- Where a row begins of which d are cut off. -/
def cutA (A : Option Addr) (c d : Nat) : Option Addr := if c = d then A else A.map (·.add (d * 9))
theorem slice_tailI (A : Option Addr) (n c d : Nat) (lo : Int) (hlo : lo = d) (h : d ≤ n) (W : World) : (Instr.slice 57 (.slice A n c) (some (.int .i64 lo)) none none).run Try.prog W = .ok (.slice (cutA A c d) (n - d) (c - d)) W := by
  subst hlo
  exact slice_tail A n c d h W
theorem slice_zero (A : Option Addr) (n c : Nat) (W : World) : (Instr.slice 57 (.slice A n c) (some (.int .i64 0)) none none).run Try.prog W = .ok (.slice A n c) W := by
  have h := slice_tail A n c 0 (Nat.zero_le _) W
  have e : (if c = 0 then A else A.map (·.add (0 * 9))) = A := by
    split
    · rfl
    · cases A with
      | none => rfl
      | some a => simp [Addr.add]
  rw [e, Nat.sub_zero, Nat.sub_zero] at h
  exact h
/-- The ring, and the law's own row apart from it. -/
structure RingLaw (B high total : Nat) (Al : Option Addr) (nl cl : Nat) (L : List Rec) (w : World) : Prop where
  ring : ∃ P at_ v, RingAt B B P at_ high total v w ∧ ringL P at_ = L ∧ ∀ ad, 0 < nl → Al = some ad → ad.block ≠ B ∧ v.ownBlock ≠ some ad.block
  reads : Reads w w.heap.size 9 Al nl (recsV L)
  len : L.length = nl
  cap : nl ≤ cl ∧ cl ≤ maxLen
  le : nl ≤ high
theorem ringLaw_next {B high total nl nx c4 at' : Nat} {A4 : Option Addr} {L xs P' : List Rec} {v' : Value} {w2 w4 : World} (hR2 : RingAt B B P' at' high (total + nx) v' w2) (hP : ringL P' at' = lastN high (L ++ xs)) (hLl : L.length = nl) (hx : xs.length = nx) (hb : Below w2.heap.size w2 w4)
    (hown : w4.ownsRow w2.heap.size 64 9 (.slice A4 (nl + nx) c4) (nl + nx) (recsV L ++ recsV xs)) (d : Nat) (hd : d = nl + nx - high) : RingLaw B high (total + nx) (cutA A4 c4 d) (nl + nx - d) (c4 - d) (lastN high (L ++ xs)) w4 := by
  obtain ⟨A', c', hAc, hr, hnc, hcm⟩ := own_reads hown
  injection hAc with e1 _ e3
  subst e1 e3
  have hlen : (lastN high (L ++ xs)).length = nl + nx - d := by
    rw [lastN_len, List.length_append, hLl, hx]
    have := hR2.h1
    omega
  refine ⟨⟨P', at', v', hR2.belowN hb hR2.blk.lt (fun q e => (hR2.own.lt q e).2), hP, fun ad h0 e => ?_⟩, ?_, hlen, ⟨by omega, by omega⟩, by have := hR2.h1; omega⟩
  · have hq : ∃ q, A4 = some q ∧ ad.block = q.block := by
      unfold cutA at e
      split at e
      · exact ⟨ad, e, rfl⟩
      · cases A4 with
        | none => cases e
        | some q =>
          injection e with e
          exact ⟨q, rfl, by rw [← e, block_of_add]⟩
    obtain ⟨q, rfl, hqe⟩ := hq
    have h1 := (hown.lt q.block rfl).1
    have h2 := hR2.blk.lt
    exact ⟨by omega, fun e => by have := (hR2.own.lt _ e).2; omega⟩
  · have h := hr.cut (k := d) (by omega) hnc
    have e : (recsV L ++ recsV xs).drop (d * 9) = recsV (lastN high (L ++ xs)) := by
      rw [← recsV_append, rec_drop]
      unfold lastN
      rw [List.length_append, hLl, hx, hd]
    rw [e] at h
    exact h
theorem reads_only {g B n size : Nat} {A : Option Addr} {v : Value} {xs : List Value} {w w' : World} (h : Reads w B size A n xs) (hB : B ≤ w.heap.size) (hon : OnlyRing g v w w') (hap : ∀ ad, 0 < n → A = some ad → ad.block ≠ g ∧ v.ownBlock ≠ some ad.block) : Reads w' B size A n xs :=
  ⟨h.1, fun hn => by
    obtain ⟨ad, e, hb, hc⟩ := h.2 hn
    obtain ⟨h1, h2⟩ := hap ad hn e
    exact ⟨ad, e, hb, fun j u hu => (World.cell?_of_block (hon.block (ad.add j).block (by rw [block_of_add]; omega) (by rw [block_of_add]; exact h1) (by rw [block_of_add]; exact fun e => h2 e.symm))).trans (hc j u hu)⟩⟩
end Go.Proofs.Ytgebopmiefgdoaa

/-
  A row of 65536 bytes in a block of its own; contracts of the law's used.
-/
import Derived.Test.YtgebopmiefgdoaaRam9
import Derived.Laws.CopyOwn
namespace Go.Proofs.Ytgebopmiefgdoaa
open Go.RowKit
/-- Block g is a row of 65536 bytes, m. -/
structure MemAt (g : Nat) (m : Nat → UInt8) (w : World) : Prop where
  blk : ∃ cs : Array Value, Blk w g 5 cs ∧ cs.size = 65536 ∧ ∀ k, k < 65536 → cs[k]? = some (.int .u8 ((m k).toNat : Int))
section
variable {g : Nat} {m : Nat → UInt8} {w w' : World}
theorem MemAt.lt (h : MemAt g m w) : g < w.heap.size := by
  obtain ⟨cs, h1, _⟩ := h.blk
  exact h1.lt
theorem MemAt.cell (h : MemAt g m w) {k : Nat} (hk : k < 65536) : w.cell? ⟨g, k, none⟩ = some (.int .u8 ((m k).toNat : Int)) := by
  obtain ⟨cs, h1, _, h3⟩ := h.blk
  exact (h1.cell k).trans (h3 k hk)
theorem MemAt.frozen (h : MemAt g m w) (k : Nat) : w.frozen? ⟨g, k, none⟩ = false := by
  obtain ⟨cs, h1, _⟩ := h.blk
  exact h1.frozen k
theorem MemAt.same (h : MemAt g m w) (hs : w'.heap[g]? = w.heap[g]?) : MemAt g m w' := by
  obtain ⟨cs, h1, h2, h3⟩ := h.blk
  exact ⟨cs, hs.trans h1, h2, h3⟩
theorem MemAt.below (h : MemAt g m w) (hb : Below w.heap.size w w') : MemAt g m w' := h.same (hb.block g h.lt)
theorem MemAt.set_ (h : MemAt g m w) {a : Nat} (ha : a < 65536) (x : UInt8) : MemAt g (upd m a x) (w.setCell ⟨g, a, none⟩ (.int .u8 (x.toNat : Int))) := by
  obtain ⟨cs, h1, h2, h3⟩ := h.blk
  refine ⟨_, h1.set_ a _, by rw [Array.size_setIfInBounds]; exact h2, fun k hk => ?_⟩
  by_cases hka : k = a
  · subst hka
    rw [Array.getElem?_setIfInBounds_self_of_lt (by omega)]
    simp [upd]
  · rw [Array.getElem?_setIfInBounds_ne (fun e => hka e.symm)]
    simp only [upd, if_neg hka]
    exact h3 k hk
theorem MemAt.congr {m' : Nat → UInt8} (h : MemAt g m w) (hm : ∀ k, k < 65536 → m' k = m k) : MemAt g m' w := by
  obtain ⟨cs, h1, h2, h3⟩ := h.blk
  exact ⟨cs, h1, h2, fun k hk => by rw [hm k hk]; exact h3 k hk⟩
theorem MemAt.reads (h : MemAt g m w) (a n : Nat) (hn : a + n ≤ 65536) : Reads w w.heap.size 1 (some ⟨g, a, none⟩) n (bytesV ((List.range n).map fun j => m (a + j))) := by
  refine ⟨by simp [bytesV], fun _ => ⟨_, rfl, h.lt, fun j u hu => ?_⟩⟩
  have hj : j < n := by
    have := (List.getElem?_eq_some_iff.1 hu).1
    simpa [bytesV] using this
  rw [addr_addn, h.cell (by omega), ← hu]
  simp [bytesV, hj]
end
/-- Is one of the first k bytes of page i other than 0? -/
def nzN (m : Nat → UInt8) (i k : Nat) : Bool := (List.range k).any fun j => m (256 * i + j) != 0
theorem nzN_succ (m : Nat → UInt8) (i k : Nat) : nzN m i (k + 1) = (nzN m i k || m (256 * i + k) != 0) := by
  simp [nzN, List.range_succ]
theorem u8_ne0 (x : UInt8) : (((x.toNat : Nat) : Int) != 0) = (x != 0) := by
  rw [Bool.eq_iff_iff, bne_iff_ne, bne_iff_ne]
  constructor
  · intro h e
    exact h (by rw [e]; rfl)
  · intro h e
    exact h (UInt8.toNat_inj.1 (by simpa using e))
set_option maxRecDepth 100000 in
set_option maxHeartbeats 4000000 in
theorem usedL_any {gl : Nat} {m : Nat → UInt8} (w : World) (h : MemAt gl m w) :
    Calls Try.prog 94 #[.slice (some ⟨gl, 0, none⟩) 65536 65536] w fun e w' => ∃ v, e = .returned v ∧ w'.ownsRow w.heap.size 3 1 v (usedN m 256).length (intsV (usedN m 256)) ∧ Below w.heap.size w w' := by
  obtain ⟨i0, hi, hz0, hz1, hz2⟩ := info_parts info_int
  have HH := Lib.hid h
  clear h
  go_enter Try.func94, Try.ntmps94
  go_wp2
  go_loopw [3, 4, 5, 6] (fun v i _ _ wr => ∃ k : Nat, k ≤ 256 ∧ i = .int .i64 k ∧ wr.ownsRow w.heap.size 3 1 v (usedN m k).length (intsV (usedN m k)) ∧ Below w.heap.size w wr) (fun _ i _ _ _ => 256 - (intOf i).toNat)
  case atStart => exact ⟨0, by omega, rfl, by simpa [usedN, intsV] using own_nil w w.heap.size 3 1, Below.refl _ _⟩
  case round =>
    obtain ⟨k, hk, rfl, hown, hbl⟩ := hrel
    obtain ⟨wo, hwo⟩ : ∃ wo : World, wo = wr := ⟨_, rfl⟩
    subst hwo
    by_cases hlt : k < 256
    · have hlt' : (k : Int) < 256 := by omega
      go_wp2
      go_loop [5, 6] (fun b j => ∃ q : Nat, q ≤ 256 ∧ j = .int .i64 q ∧ b = .bool (nzN m k q)) (fun _ j => 256 - (intOf j).toNat)
      case atStart => exact ⟨0, by omega, rfl, rfl⟩
      case round =>
        obtain ⟨q, hq, rfl, rfl⟩ := hrel
        by_cases hqt : q < 256
        · have hqt' : (q : Int) < 256 := by omega
          have hc := (HH.out.below hbl).cell (k := 256 * k + q) (by omega)
          have HS := Lib.hid (nzN_succ m k q)
          have HU := Lib.hid (u8_ne0 (m (256 * k + q)))
          generalize nzN m k q = b at *
          generalize m (256 * k + q) = x at *
          cases b with
          | true =>
            go_wp2
            go_round
            case rel => exact ⟨q + 1, by omega, by go_num, by rw [HS.out]; rfl⟩
            case measure => simp [intOf]; omega
          | false =>
            go_wp2
            go_round
            case rel => exact ⟨q + 1, by omega, by go_num, by rw [HS.out, ← HU.out]; rfl⟩
            case measure => simp [intOf]; omega
        · obtain rfl : q = 256 := by omega
          have HT := Lib.hid (usedN_succ m k)
          have hle := usedN_len m k
          have hs := hbl.size
          have hpn : nzN m k 256 = pageNZ m k := rfl
          rw [hpn]
          have HB : Hid (∃ b, b = pageNZ m k) := ⟨_, rfl⟩
          obtain ⟨b, hb⟩ := HB.out
          rw [← hb] at HT ⊢
          clear HB hb hpn
          generalize hU : usedN m k = U at *
          generalize hUl : U.length = ul at *
          cases b with
          | true =>
            have HE : Hid (usedN m (k + 1) = U ++ [(k : Int)]) := by
              show usedN m (k + 1) = U ++ [(k : Int)]
              rw [HT.out]; rfl
            have hnew : Reads (wo.alloc (.cells #[.int .i64 (k : Int)] 3)) (wo.heap.size + 1) 1 (some ⟨wo.heap.size, 0, none⟩) 1 (intsV [(k : Int)]) := Reads.new1 wo _ _ 1 _ rfl (Nat.lt_succ_self _)
            clear hU HT
            have HUL := Lib.hid hUl
            clear hUl
            go_wp2_with ((at_builtin; refine wpList_append_any _ rfl (.tmp 27) (.tmp 29) 83 rfl w.heap.size 3 i0 (.int .i64 0) 1 8 Try.underlying83 hi hz0 hz1 hz2 rfl (by omega) _ ul (intsV U) rfl (hown.alloc _) (wo.heap.size + 1) (some ⟨wo.heap.size, 0, none⟩) 1 1 (intsV [(k : Int)]) rfl hnew (intsV_one _) (by simp only [maxLen]; omega) (by omega) (Nat.le_trans hs (by simp)) ?_; intro v1 w2 hown2 hg2 hat2))
            go_roundw
            case rel => exact ⟨k + 1, by omega, by go_num, by rw [HE.out]; simpa [intsV, HUL.out] using hown2, below_own (below_alloc' hbl) (hown.alloc _) hg2 (Nat.le_trans hs (by simp))⟩
            case measure => simp [intOf]; omega
          | false =>
            have HE : Hid (usedN m (k + 1) = U) := by
              show usedN m (k + 1) = U
              rw [HT.out]; simp
            clear hU HT
            have HUL := Lib.hid hUl
            clear hUl
            go_wp2
            go_roundw
            case rel => exact ⟨k + 1, by omega, by go_num, by rw [HE.out, HUL.out]; exact hown, hbl⟩
            case measure => simp [intOf]; omega
    · obtain rfl : k = 256 := by omega
      go_wp2
      go_ret
      exact ⟨_, rfl, hown, hbl⟩
end Go.Proofs.Ytgebopmiefgdoaa

/-
  Contracts of digit.Unpair, of the reference's Pairs and Unpair, of bytes.Equal.
-/
import Derived.Test.YtgebopmiefgdoaaPairs
namespace Go.Proofs.Ytgebopmiefgdoaa
open Go.RowKit
def byteAt (l : List UInt8) (j : Nat) : UInt8 := UInt8.ofNat (16 * val (l.getD (2 * j) 0) + val (l.getD (2 * j + 1) 0))
def outB (l : List UInt8) (k : Nat) : List UInt8 := (List.range k).map (byteAt l)
theorem outB_succ (l : List UInt8) (k : Nat) : outB l (k + 1) = outB l k ++ [byteAt l k] := by simp [outB, List.range_succ]
theorem outB_length (l : List UInt8) (k : Nat) : (outB l k).length = k := by simp [outB]
/-- The bytes of pairs of digits and 0, or why they are none. -/
def unpS (l : List UInt8) : List UInt8 × Nat := if l.length % 2 = 1 ∨ ∃ c ∈ l, 16 ≤ val c then ([], 21) else (outB l (l.length / 2), 0)
theorem unpS_odd (l : List UInt8) (h : l.length % 2 = 1) : unpS l = ([], 21) := by unfold unpS; rw [if_pos (.inl h)]
theorem unpS_bad (l : List UInt8) (c : UInt8) (h : c ∈ l) (hc : 16 ≤ val c) : unpS l = ([], 21) := by unfold unpS; rw [if_pos (.inr ⟨c, h, hc⟩)]
theorem unpS_good (l : List UInt8) (h : l.length % 2 = 0) (h2 : ∀ c ∈ l, val c < 16) : unpS l = (outB l (l.length / 2), 0) := by
  unfold unpS
  rw [if_neg]
  rintro (h3 | ⟨c, hc, h3⟩)
  · omega
  · have := h2 c hc; omega
theorem pairsL_get (l : List UInt8) (j : Nat) (c : UInt8) (h : l[j]? = some c) : (pairsL l)[2 * j]? = some (dig (c.toNat / 16)) ∧ (pairsL l)[2 * j + 1]? = some (dig (c.toNat % 16)) := by
  induction l generalizing j with
  | nil => simp at h
  | cons x l ih =>
    cases j with
    | zero => simp at h; subst h; simp [pairsL]
    | succ j =>
      simp at h
      have e1 : 2 * (j + 1) = 2 * j + 2 := by omega
      have := ih j h
      simpa [pairsL, e1] using this
theorem pairsL_mem (l : List UInt8) : ∀ c ∈ pairsL l, val c < 16 := by
  intro c hc
  unfold pairsL at hc
  obtain ⟨x, _, hx⟩ := List.mem_flatMap.1 hc
  have h2 := x.toNat_lt
  rcases List.mem_cons.1 hx with rfl | hx
  · rw [val_dig _ (by omega)]; omega
  · simp at hx
    subst hx
    rw [val_dig _ (by omega)]; omega
theorem unpS_pairs (l : List UInt8) : unpS (pairsL l) = (l, 0) := by
  rw [unpS_good _ (by rw [pairsL_length]; omega) (pairsL_mem l), pairsL_length]
  congr 1
  apply List.ext_getElem?
  intro j
  rw [show 2 * l.length / 2 = l.length by omega]
  unfold outB
  rw [List.getElem?_map]
  rcases Nat.lt_or_ge j l.length with h | h
  · obtain ⟨c, hc⟩ : ∃ c, l[j]? = some c := ⟨_, List.getElem?_eq_getElem h⟩
    obtain ⟨h1, h2⟩ := pairsL_get l j c hc
    have h3 := c.toNat_lt
    rw [List.getElem?_range h, hc]
    simp only [Option.map_some, byteAt, List.getD_eq_getElem?_getD, h1, h2, Option.getD_some]
    rw [val_dig _ (by omega), val_dig _ (by omega), Nat.div_add_mod]
    exact congrArg some UInt8.ofNat_toNat
  · rw [List.getElem?_eq_none (by simpa using h), List.getElem?_eq_none h]; rfl
theorem or_u8 (a b : Nat) (ha : a < 16) (hb : b < 16) : bits .or .u8 ((a : Int) * 16) (b : Int) = ((UInt8.ofNat (16 * a + b)).toNat : Int) := by
  rw [bits_join .u8 8 (by decide) wraps_u8 4 _ (b : Int) (by omega) (by omega) (by omega) (by omega) (by omega) (by omega), UInt8.toNat_ofNat']
  omega
/-- What Unpair ends with. -/
def UnpPost (w : World) (l : List UInt8) (e : Ending) (w' : World) : Prop :=
  ∃ v, e = .returned (.tuple #[v, .int .i64 (unpS l).2]) ∧ w'.ownsRow w.heap.size 5 1 v (unpS l).1.length (bytesV (unpS l).1) ∧ Below w.heap.size w w'
set_option maxRecDepth 100000 in
set_option maxHeartbeats 2000000 in
theorem Unpair_any (l : List UInt8) (w : World) (hl : l.length ≤ 4294967296) :
    Calls Try.prog 33 #[.string ⟨l.toArray⟩] w (UnpPost w l) := by
  obtain ⟨i0, hi, hz0, hz1, hz2⟩ := info_parts info_u8
  have hsz : (ByteArray.mk l.toArray).size = l.length := by simp [ByteArray.size_mk']
  by_cases hodd : l.length % 2 = 1
  · have HO := Lib.hid hodd
    have hb2 : ((l.length : Int) % 2 != 0) = true := by rw [bne_iff_ne]; omega
    clear hodd
    go_enter Try.func33, Try.ntmps33
    go_wp2
    go_ret2
    refine ⟨_, by rw [unpS_odd l HO.out]; rfl, ?_, Below.refl _ _⟩
    rw [unpS_odd l HO.out]
    exact own_nil _ _ _ _
  · have hev : l.length % 2 = 0 := by omega
    have HE := Lib.hid hev
    have hb2 : ((l.length : Int) % 2 != 0) = false := by rw [bne_eq_false_iff_eq]; omega
    clear hodd hev
    go_enter Try.func33, Try.ntmps33
    go_wp2
    go_loopw [4, 5] (fun v i wr => ∃ k : Nat, 2 * k ≤ l.length ∧ i = .int .i64 (2 * k) ∧ wr.ownsRow w.heap.size 5 1 v k (bytesV (outB l k)) ∧ (∀ c ∈ l.take (2 * k), val c < 16) ∧ Below w.heap.size w wr) (fun _ i _ => l.length - (intOf i).toNat)
    case atStart => exact ⟨0, by omega, rfl, own_nil _ _ _ _, by simp, Below.refl _ _⟩
    case round =>
      obtain ⟨k, hk, rfl, hown, hall, hbl⟩ := hrel
      by_cases hlt : 2 * k < l.length
      · have hlt2 : 2 * k + 1 < l.length := by have := HE.out; omega
        obtain ⟨c, hx⟩ : ∃ c, l[2 * k]? = some c := ⟨_, List.getElem?_eq_getElem hlt⟩
        obtain ⟨d, hy⟩ : ∃ d, l[2 * k + 1]? = some d := ⟨_, List.getElem?_eq_getElem hlt2⟩
        have hget := str_get l _ c hx
        have hget2 := str_get l _ d hy
        have HA := Lib.hid (take_all (p := fun c => val c < 16) l _ c hx hall)
        have HA2 : Hid (∀ (ha : ∀ c ∈ l.take (2 * k + 1), val c < 16) (hc : val d < 16), ∀ c ∈ l.take (2 * k + 1 + 1), val c < 16) := fun ha hc => take_all (p := fun c => val c < 16) l _ d hy ha hc
        have HX := Lib.hid hx
        have HY := Lib.hid hy
        have hc2 := c.toNat_lt
        have hd2 := d.toNat_lt
        have hbyte : byteAt l k = UInt8.ofNat (16 * valN c.toNat + valN d.toNat) := by simp [byteAt, List.getD_eq_getElem?_getD, hx, hy, val]
        have HB := Lib.hid hbyte
        have hv := valN_lt c.toNat
        have hv' := valN_lt d.toNat
        clear hx hy hall hbyte
        by_cases hv2 : valN c.toNat < 16
        · by_cases hv3 : valN d.toNat < 16
          · have hor := or_u8 _ _ hv2 hv3
            rw [← HB.out] at hor
            have hnew : Reads (wr.alloc (.cells #[.int .u8 (byteAt l k).toNat] 5)) (wr.heap.size + 1) 1 (some ⟨wr.heap.size, 0, none⟩) 1 (bytesV [byteAt l k]) := Reads.new1 wr _ _ 1 _ rfl (Nat.lt_succ_self _)
            have hone : ∀ u ∈ bytesV [byteAt l k], u.oneCell' = true := by simp [bytesV, Value.oneCell']
            go_wp2_with (first | (go_at_call 107; first | ((with_reducible refine (value_any c.toNat _ (by omega)).mono ?_); rintro e w1 ⟨rfl, rfl⟩; rw [if_pos hv2, decide_eq_true hv2]) | ((with_reducible refine (value_any d.toNat _ (by omega)).mono ?_); rintro e w1 ⟨rfl, rfl⟩; rw [if_pos hv3, decide_eq_true hv3])) | (at_builtin; refine wpList_append_any _ rfl (.tmp 41) (.tmp 46) 37 rfl w.heap.size 5 i0 (.int .u8 0) 1 1 Try.underlying37 hi hz0 hz1 hz2 rfl (by omega) _ k (bytesV (outB l k)) rfl (hown.alloc _) (wr.heap.size + 1) (some ⟨wr.heap.size, 0, none⟩) 1 1 (bytesV [byteAt l k]) rfl hnew hone (by simp only [maxLen]; omega) (by omega) (Nat.le_trans hbl.size (by simp)) ?_; intro v1 w1 hown1 hg1 hat1))
            go_roundw
            case rel =>
              refine ⟨k + 1, by omega, by go_num, ?_, ?_, below_own (below_alloc' hbl) (hown.alloc _) hg1 (Nat.le_trans hbl.size (by simp))⟩
              · rw [outB_succ, bytesV_append]; exact hown1
              · exact HA2.out (HA.out hv2) hv3
            case measure => simp [intOf]; omega
          · have hbad : 16 ≤ val d := by unfold val; omega
            go_wp2_with (first | (go_at_call 107; first | ((with_reducible refine (value_any c.toNat _ (by omega)).mono ?_); rintro e w1 ⟨rfl, rfl⟩; rw [if_pos hv2, decide_eq_true hv2]) | ((with_reducible refine (value_any d.toNat _ (by omega)).mono ?_); rintro e w1 ⟨rfl, rfl⟩; rw [if_neg hv3, decide_eq_false hv3])))
            go_ret2
            refine ⟨_, by rw [unpS_bad l d (List.mem_of_getElem? HY.out) hbad]; rfl, ?_, hbl⟩
            rw [unpS_bad l d (List.mem_of_getElem? HY.out) hbad]
            exact own_nil _ _ _ _
        · have hbad : 16 ≤ val c := by unfold val; omega
          by_cases hv3 : valN d.toNat < 16
          · go_wp2_with (first | (go_at_call 107; first | ((with_reducible refine (value_any c.toNat _ (by omega)).mono ?_); rintro e w1 ⟨rfl, rfl⟩; rw [if_neg hv2, decide_eq_false hv2]) | ((with_reducible refine (value_any d.toNat _ (by omega)).mono ?_); rintro e w1 ⟨rfl, rfl⟩; rw [if_pos hv3, decide_eq_true hv3])))
            go_ret2
            refine ⟨_, by rw [unpS_bad l c (List.mem_of_getElem? HX.out) hbad]; rfl, ?_, hbl⟩
            rw [unpS_bad l c (List.mem_of_getElem? HX.out) hbad]
            exact own_nil _ _ _ _
          · go_wp2_with (first | (go_at_call 107; first | ((with_reducible refine (value_any c.toNat _ (by omega)).mono ?_); rintro e w1 ⟨rfl, rfl⟩; rw [if_neg hv2, decide_eq_false hv2]) | ((with_reducible refine (value_any d.toNat _ (by omega)).mono ?_); rintro e w1 ⟨rfl, rfl⟩; rw [if_neg hv3, decide_eq_false hv3])))
            go_ret2
            refine ⟨_, by rw [unpS_bad l c (List.mem_of_getElem? HX.out) hbad]; rfl, ?_, hbl⟩
            rw [unpS_bad l c (List.mem_of_getElem? HX.out) hbad]
            exact own_nil _ _ _ _
      · have hkk : 2 * k = l.length := by omega
        have hk2 : l.length / 2 = k := by omega
        rw [hkk, List.take_length] at hall
        have hu := unpS_good l HE.out hall
        rw [hk2] at hu
        have HU := Lib.hid hu
        clear hkk hk2 hall hu
        go_wp2
        go_ret2
        refine ⟨_, by rw [HU.out]; rfl, ?_, hbl⟩
        rw [HU.out]
        dsimp only
        rw [outB_length]
        exact hown
set_option maxRecDepth 100000 in
set_option maxHeartbeats 2000000 in
theorem RefUnpair_any (l : List UInt8) (w : World) (hl : l.length ≤ 4294967296) :
    Calls Try.prog 34 #[.string ⟨l.toArray⟩] w (UnpPost w l) := by
  obtain ⟨i0, hi, hz0, hz1, hz2⟩ := info_parts info_u8
  have hsz : (ByteArray.mk l.toArray).size = l.length := by simp [ByteArray.size_mk']
  by_cases hodd : l.length % 2 = 1
  · have HO := Lib.hid hodd
    have hb2 : ((l.length : Int) % 2 == 1) = true := by rw [beq_iff_eq]; omega
    clear hodd
    go_enter Try.func34, Try.ntmps34
    go_wp2
    go_ret2
    refine ⟨_, by rw [unpS_odd l HO.out]; rfl, ?_, Below.refl _ _⟩
    rw [unpS_odd l HO.out]
    exact own_nil _ _ _ _
  · have hev : l.length % 2 = 0 := by omega
    have HE := Lib.hid hev
    have hb2 : ((l.length : Int) % 2 == 1) = false := by rw [beq_eq_false_iff_ne]; omega
    clear hodd hev
    go_enter Try.func34, Try.ntmps34
    go_wp2
    go_loopw [4, 5] (fun v i wr => ∃ k : Nat, 2 * k ≤ l.length ∧ i = .int .i64 (2 * k) ∧ wr.ownsRow w.heap.size 5 1 v k (bytesV (outB l k)) ∧ (∀ c ∈ l.take (2 * k), val c < 16) ∧ Below w.heap.size w wr) (fun _ i _ => l.length - (intOf i).toNat)
    case atStart => exact ⟨0, by omega, rfl, own_nil _ _ _ _, by simp, Below.refl _ _⟩
    case round =>
      obtain ⟨k, hk, rfl, hown, hall, hbl⟩ := hrel
      by_cases hlt : 2 * k < l.length
      · have hlt2 : 2 * k + 1 < l.length := by have := HE.out; omega
        obtain ⟨c, hx⟩ : ∃ c, l[2 * k]? = some c := ⟨_, List.getElem?_eq_getElem hlt⟩
        obtain ⟨d, hy⟩ : ∃ d, l[2 * k + 1]? = some d := ⟨_, List.getElem?_eq_getElem hlt2⟩
        have hext : (ByteArray.mk l.toArray).extract (2 * k) (2 * k + 2) = ⟨[c, d].toArray⟩ := by
          rw [ByteArray.extract_mk]
          obtain ⟨h1, h2⟩ := List.getElem?_eq_some_iff.1 hx
          obtain ⟨h3, h4⟩ := List.getElem?_eq_some_iff.1 hy
          rw [List.drop_eq_getElem_cons h1, List.drop_eq_getElem_cons h3, h2, h4, show 2 * k + 2 - 2 * k = 2 by omega]
          rfl
        have HA := Lib.hid (take_all (p := fun c => val c < 16) l _ c hx hall)
        have HA2 : Hid (∀ (ha : ∀ c ∈ l.take (2 * k + 1), val c < 16) (hc : val d < 16), ∀ c ∈ l.take (2 * k + 1 + 1), val c < 16) := fun ha hc => take_all (p := fun c => val c < 16) l _ d hy ha hc
        have HX := Lib.hid hx
        have HY := Lib.hid hy
        have hbyte : byteAt l k = UInt8.ofNat (16 * val c + val d) := by simp [byteAt, List.getD_eq_getElem?_getD, hx, hy]
        have HB := Lib.hid hbyte
        clear hx hy hall hbyte
        have hbad : ¬ (val c < 16 ∧ val d < 16) → readS 16 2 [c, d] = (0, 21) ∧ unpS l = ([], 21) := fun h => by
          by_cases hc : val c < 16
          · have hd : 16 ≤ val d := by omega
            exact ⟨readS_bad 16 2 _ d (by simp) hd, unpS_bad l d (List.mem_of_getElem? HY.out) hd⟩
          · exact ⟨readS_bad 16 2 _ c (by simp) (by omega), unpS_bad l c (List.mem_of_getElem? HX.out) (by omega)⟩
        by_cases hg : val c < 16 ∧ val d < 16
        · obtain ⟨hv2, hv3⟩ := hg
          have hrs : readS 16 2 [c, d] = (16 * val c + val d, 0) := by
            rw [(readS_num 16 2 (by omega) [c, d] (by simp) (by simp [hv2, hv3]) (by simp) (by omega)).1]
            simp [numB]
          have hbt : (16 * (val c : Int) + (val d : Int)) = ((byteAt l k).toNat : Int) := by
            rw [HB.out, UInt8.toNat_ofNat']; omega
          have HR := Lib.hid hrs
          have hnew : Reads (wr.alloc (.cells #[.int .u8 (byteAt l k).toNat] 5)) (wr.heap.size + 1) 1 (some ⟨wr.heap.size, 0, none⟩) 1 (bytesV [byteAt l k]) := Reads.new1 wr _ _ 1 _ rfl (Nat.lt_succ_self _)
          have hone : ∀ u ∈ bytesV [byteAt l k], u.oneCell' = true := by simp [bytesV, Value.oneCell']
          clear hbad hrs
          go_wp2_with (first | (go_at_call 58; (with_reducible refine (RefPair_any [c, d] _ (by simp)).mono ?_); rintro e w1 ⟨rfl, rfl⟩; rw [HR.out]) | (at_builtin; refine wpList_append_any _ rfl (.tmp 30) (.tmp 33) 37 rfl w.heap.size 5 i0 (.int .u8 0) 1 1 Try.underlying37 hi hz0 hz1 hz2 rfl (by omega) _ k (bytesV (outB l k)) rfl (hown.alloc _) (wr.heap.size + 1) (some ⟨wr.heap.size, 0, none⟩) 1 1 (bytesV [byteAt l k]) rfl hnew hone (by simp only [maxLen]; omega) (by omega) (Nat.le_trans hbl.size (by simp)) ?_; intro v1 w1 hown1 hg1 hat1))
          go_roundw
          case rel =>
            refine ⟨k + 1, by omega, by go_num, ?_, ?_, below_own (below_alloc' hbl) (hown.alloc _) hg1 (Nat.le_trans hbl.size (by simp))⟩
            · rw [outB_succ, bytesV_append]; exact hown1
            · exact HA2.out (HA.out hv2) hv3
          case measure => simp [intOf]; omega
        · obtain ⟨h1, h2⟩ := hbad hg
          have HR := Lib.hid h1
          have HU := Lib.hid h2
          clear h1 h2 hbad hg
          go_wp2_with (first | (go_at_call 58; (with_reducible refine (RefPair_any [c, d] _ (by simp)).mono ?_); rintro e w1 ⟨rfl, rfl⟩; rw [HR.out]))
          go_ret2
          refine ⟨_, by rw [HU.out]; rfl, ?_, hbl⟩
          rw [HU.out]
          exact own_nil _ _ _ _
      · have hkk : 2 * k = l.length := by omega
        have hk2 : l.length / 2 = k := by omega
        rw [hkk, List.take_length] at hall
        have hu := unpS_good l HE.out hall
        rw [hk2] at hu
        have HU := Lib.hid hu
        clear hkk hk2 hall hu
        go_wp2
        go_ret2
        refine ⟨_, by rw [HU.out]; rfl, ?_, hbl⟩
        rw [HU.out]
        dsimp only
        rw [outB_length]
        exact hown
set_option maxRecDepth 100000 in
set_option maxHeartbeats 2000000 in
theorem RefPairs_any (l : List UInt8) (A : Option Addr) (n c B : Nat) (w : World) (hr : Reads w B 1 A n (bytesV l)) (hn : n ≤ 1048576) :
    Calls Try.prog 35 #[.slice A n c] w fun e w' => e = .returned (.string ⟨(pairsL l).toArray⟩) ∧ w = w' := by
  have hln : l.length = n := by simpa [bytesV] using hr.1
  have HLN := Lib.hid hln
  clear hln
  go_enter Try.func35, Try.ntmps35
  go_wp2
  go_loop [3, 4] (fun s i => ∃ k : Nat, k ≤ n ∧ i = .int .i64 k ∧ s = .string ⟨(pairsL (l.take k)).toArray⟩) (fun _ i => n - (intOf i).toNat)
  case atStart => exact ⟨0, by omega, rfl, rfl⟩
  case round =>
    obtain ⟨k, hk, rfl, rfl⟩ := hrel
    by_cases hlt : k < n
    · obtain ⟨ad, u, rfl, hab, hu, hcell⟩ := hr.at_ hlt
      obtain ⟨c, hx, rfl⟩ := bytesV_get l k u hu
      have HT := Lib.hid (pairsL_take l k c hx)
      have hc2 := c.toNat_lt
      have hle : (pairsL (l.take k)).length ≤ 2097152 := by rw [pairsL_length, List.length_take]; omega
      have h2 : ndig 16 (kd 16 c.toNat 2) c.toNat = [dig (c.toNat / 16), dig (c.toNat % 16)] := by
        have : ∀ c : Fin 256, ndig 16 (kd 16 c.val 2) c.val = [dig (c.val / 16), dig (c.val % 16)] := by decide +kernel
        exact this ⟨c.toNat, hc2⟩
      have H2 := Lib.hid h2
      have HM := Lib.hid (ByteArray.mk_append_mk (pairsL (l.take k)) [dig (c.toNat / 16), dig (c.toNat % 16)])
      clear hu hx h2
      generalize hp : pairsL (l.take k) = p at *
      have HP := Lib.hid hp
      clear hp
      go_wp2_with (first | (go_at_call 76; refine (Digits16_any c.toNat 2 16 _ (by omega) (by omega) (by omega) (by omega) (by omega) (by omega)).mono ?_; rintro e w1 ⟨rfl, rfl⟩; rw [show (2 : Int).toNat = 2 from rfl, H2.out]))
      go_round
      case rel => exact ⟨k + 1, by omega, by go_num, by rw [HT.out, ← HM.out]⟩
      case measure => simp [intOf]; omega
    · obtain rfl : k = n := by omega
      have hall : l.take k = l := List.take_of_length_le (by rw [HLN.out]; exact Nat.le_refl _)
      rw [hall] at *
      clear hall
      go_wp2
      go_ret
      exact ⟨rfl, rfl⟩
theorem Equal_any (l m : List UInt8) (A A2 : Option Addr) (n c n2 c2 B B2 : Nat) (w : World) (hr : Reads w B 1 A n (bytesV l)) (hr2 : Reads w B2 1 A2 n2 (bytesV m)) :
    Calls Try.prog 36 #[.slice A n c, .slice A2 n2 c2] w fun e w' => e = .returned (.bool (l == m)) ∧ w = w' := by
  have h1 := conv_bytes_str (P := Try.prog) (src := 37) (dst := 9) Try.underlying37 Try.underlying5 Try.underlying9 c hr
  have h2 := conv_bytes_str (P := Try.prog) (src := 37) (dst := 9) Try.underlying37 Try.underlying5 Try.underlying9 c2 hr2
  go_enter Try.func36, Try.ntmps36
  go_wp2
  go_ret
  exact ⟨rfl, rfl⟩
end Go.Proofs.Ytgebopmiefgdoaa

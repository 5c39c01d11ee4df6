/-
  Contracts of the readings of a text as a number: digit.Read, digit.ReadDec, and the reference's Read to the bases 16 and 10.
-/
import Derived.Test.YtgebopmiefgdoaaDigit2
namespace Go.Proofs.Ytgebopmiefgdoaa
open Go.RowKit
theorem str_get (l : List UInt8) (k : Nat) (c : UInt8) (h : l[k]? = some c) : ∀ hk : k < (ByteArray.mk l.toArray).size, (ByteArray.mk l.toArray)[k]'hk = c := fun hk => by
  obtain ⟨h1, h2⟩ := List.getElem?_eq_some_iff.1 h
  exact h2
theorem numB_take (b : Nat) (l : List UInt8) (k : Nat) (c : UInt8) (h : l[k]? = some c) : numB b (l.take (k + 1)) = b * numB b (l.take k) + val c := by
  obtain ⟨hk, rfl⟩ := List.getElem?_eq_some_iff.1 h
  rw [List.take_succ_eq_append_getElem hk, numB_snoc]
theorem take_all {p : UInt8 → Prop} (l : List UInt8) (k : Nat) (c : UInt8) (h : l[k]? = some c) (ha : ∀ c ∈ l.take k, p c) (hc : p c) : ∀ c ∈ l.take (k + 1), p c := by
  obtain ⟨hk, rfl⟩ := List.getElem?_eq_some_iff.1 h
  rw [List.take_succ_eq_append_getElem hk]
  intro x hx
  rcases List.mem_append.1 hx with h | h
  · exact ha x h
  · simp at h; subst h; exact hc
theorem or_u64 (N d : Nat) (hd : d < 16) : bits .or .u64 (IntKind.u64.wrap ((N : Int) % 18446744073709551616 * 16)) (d : Int) = ((16 * N + d) % 18446744073709551616 : Nat) := by
  have hw : ∀ n : Int, 0 ≤ n → n < 2 ^ 64 → IntKind.u64.wrap n = n := fun n h0 h1 => by rw [IntKind.wrap_u64]; omega
  rw [bits_join .u64 64 (by decide) hw 4 _ (d : Int) (by rw [IntKind.wrap_u64]; omega) (by rw [IntKind.wrap_u64]; omega) (by rw [IntKind.wrap_u64]; omega) (by omega) (by omega) (by omega), IntKind.wrap_u64]
  omega
set_option maxRecDepth 100000 in
set_option maxHeartbeats 1000000 in
theorem Read_any (l : List UInt8) (w : World) (hl : l.length ≤ 4611686018427387904) :
    Calls Try.prog 57 #[.string ⟨l.toArray⟩] w fun e w' => e = .returned (.tuple #[.int .u64 (readS 16 16 l).1, .int .i64 (readS 16 16 l).2]) ∧ w = w' := by
  have hsz : (ByteArray.mk l.toArray).size = l.length := by simp [ByteArray.size_mk']
  go_enter Try.func57, Try.ntmps57
  go_wp2
  go_loop [4, 10] (fun a i => ∃ k : Nat, k ≤ l.length ∧ i = .int .i64 k ∧ a = .int .u64 (numB 16 (l.take k) % 18446744073709551616 : Nat) ∧ ∀ c ∈ l.take k, val c < 16) (fun _ i => l.length - (intOf i).toNat)
  case atStart => exact ⟨0, by omega, rfl, rfl, by simp⟩
  case round =>
    obtain ⟨k, hk, rfl, rfl, hall⟩ := hrel
    by_cases hlt : k < l.length
    · obtain ⟨c, hx⟩ : ∃ c, l[k]? = some c := ⟨_, List.getElem?_eq_getElem hlt⟩
      have hget := str_get l k c hx
      have HT := Lib.hid (numB_take 16 l k c hx)
      have HA := Lib.hid (take_all (p := fun c => val c < 16) l k c hx hall)
      have HX := Lib.hid hx
      have hc2 := c.toNat_lt
      have hv := valN_lt c.toNat
      have hnb : numB 16 (l.take k) % 18446744073709551616 < 18446744073709551616 := Nat.mod_lt _ (by omega)
      generalize hN : numB 16 (l.take k) = N at *
      have HN := Lib.hid hN
      clear hx hall hN
      by_cases hv2 : valN c.toNat < 16
      · go_wp2_with (go_at_call 107; refine (value_any _ _ (by omega)).mono ?_; rintro e w1 ⟨rfl, rfl⟩; rw [if_pos hv2, decide_eq_true hv2])
        go_round
        case rel =>
          refine ⟨k + 1, by omega, by go_num, ?_, HA.out hv2⟩
          rw [HT.out]
          exact congrArg (Value.int .u64) (or_u64 N _ hv2)
        case measure => simp [intOf]; omega
      · go_wp2_with (go_at_call 107; refine (value_any _ _ (by omega)).mono ?_; rintro e w1 ⟨rfl, rfl⟩; rw [if_neg hv2, decide_eq_false hv2])
        go_ret2
        rw [readS_bad 16 16 l c (List.mem_of_getElem? HX.out) (by unfold val; omega)]
        exact ⟨rfl, rfl⟩
    · obtain rfl : k = l.length := by omega
      rw [List.take_length] at *
      cases hl2 : l with
      | nil =>
        subst hl2
        go_wp2
        go_ret2
        rw [readS_nil]
        exact ⟨rfl, rfl⟩
      | cons a m =>
        have hne : l ≠ [] := by rw [hl2]; simp
        have HL2 := Lib.hid hl2
        rw [← hl2]
        clear hl2
        have he : l.isEmpty = false := by simpa using hne
        by_cases h16 : 16 < l.length
        · have hr := readS_good 16 16 l hne hall
          rw [if_pos h16] at hr
          have HR := Lib.hid hr
          clear hr
          go_wp2
          go_ret2
          rw [HR.out]
          exact ⟨rfl, rfl⟩
        · obtain ⟨hr, hr2⟩ := readS_num 16 16 (by omega) l hne hall (by omega) (by omega)
          have HR := Lib.hid hr
          have HM := Lib.hid (Nat.mod_eq_of_lt hr2)
          clear hr
          go_wp2
          go_ret2
          rw [HR.out]
          exact ⟨ret2_int (by have := HM.out; omega) rfl, rfl⟩
theorem val_lt100 (c : UInt8) : val c < 100 := by have := valN_le c.toNat; unfold val; omega
set_option maxRecDepth 100000 in
set_option maxHeartbeats 1000000 in
theorem ReadDec_any (l : List UInt8) (w : World) (hl : l.length ≤ 4611686018427387904) :
    Calls Try.prog 59 #[.string ⟨l.toArray⟩] w fun e w' => e = .returned (.tuple #[.int .u64 (readS 10 20 l).1, .int .i64 (readS 10 20 l).2]) ∧ w = w' := by
  have hsz : (ByteArray.mk l.toArray).size = l.length := by simp [ByteArray.size_mk']
  go_enter Try.func59, Try.ntmps59
  go_wp2
  go_loop [4, 5, 11] (fun a o i => ∃ (k : Nat) (x : Int), k ≤ l.length ∧ i = .int .i64 k ∧ a = .int .u64 x ∧ 0 ≤ x ∧ x ≤ 18446744073709551615 ∧ o = .bool (foldO 10 (l.take k) 0).isNone ∧ (∀ m, foldO 10 (l.take k) 0 = some m → x = m) ∧ ∀ c ∈ l.take k, val c < 10) (fun _ _ i => l.length - (intOf i).toNat)
  case atStart => exact ⟨0, 0, by omega, rfl, rfl, by omega, by omega, rfl, fun m h => by simp [foldO] at h; omega, by simp⟩
  case round =>
    obtain ⟨k, x, hk, rfl, rfl, x0, x1, rfl, hxm, hall⟩ := hrel
    by_cases hlt : k < l.length
    · obtain ⟨c, hx⟩ : ∃ c, l[k]? = some c := ⟨_, List.getElem?_eq_getElem hlt⟩
      have hget := str_get l k c hx
      have HT := Lib.hid (foldO_take 10 l k c hx)
      have HA := Lib.hid (take_all (p := fun c => val c < 10) l k c hx hall)
      have HX := Lib.hid hx
      have hc2 := c.toNat_lt
      have hv := valN_lt c.toNat
      clear hx hall
      by_cases hv2 : valN c.toNat < 16
      · by_cases hv3 : valN c.toNat < 10
        · have HV : Hid (val c = valN c.toNat) := rfl
          generalize hd : valN c.toNat = d at *
          have HD := Lib.hid hd
          clear hd hv
          cases hF : foldO 10 (l.take k) 0 with
          | none =>
            have HF := Lib.hid hF
            clear hF hxm
            go_wp2_with (go_at_call 107; refine (value_any _ _ (by omega)).mono ?_; rintro e w1 ⟨rfl, rfl⟩; rw [HD.out, if_pos hv2, decide_eq_true hv2])
            go_round
            case rel =>
              refine ⟨k + 1, _, by omega, by go_num, rfl, ?_, ?_, ?_, ?_, HA.out (by rw [HV.out]; exact hv3)⟩
              · rw [IntKind.wrap_u64]; omega
              · rw [IntKind.wrap_u64]; omega
              · rw [HT.out, HF.out]; rfl
              · rw [HT.out, HF.out]; simp
            case measure => simp [intOf]; omega
          | some m =>
            obtain rfl : x = m := hxm m hF
            have HF := Lib.hid hF
            clear hF hxm
            by_cases hov : m ≤ (18446744073709551615 - d) / 10
            · have HOV := Lib.hid hov
              go_wp2_with (go_at_call 107; refine (value_any _ _ (by omega)).mono ?_; rintro e w1 ⟨rfl, rfl⟩; rw [HD.out, if_pos hv2, decide_eq_true hv2])
              go_round
              case rel =>
                have hov2 := HOV.out
                have hfs : foldO 10 (l.take (k + 1)) 0 = some (10 * m + d) := by
                  rw [HT.out, HF.out, HV.out]
                  simp only [Option.bind_some]
                  rw [if_neg (by omega)]
                refine ⟨k + 1, _, by omega, by go_num, rfl, by omega, by omega, ?_, ?_, HA.out (by rw [HV.out]; exact hv3)⟩
                · rw [hfs]; simp; omega
                · rw [hfs]
                  intro m2 hm2
                  injection hm2 with hm2
                  omega
              case measure => simp [intOf]; omega
            · have HOV := Lib.hid hov
              go_wp2_with (go_at_call 107; refine (value_any _ _ (by omega)).mono ?_; rintro e w1 ⟨rfl, rfl⟩; rw [HD.out, if_pos hv2, decide_eq_true hv2])
              go_round
              case rel =>
                have hfn : foldO 10 (l.take (k + 1)) 0 = none := by
                  rw [HT.out, HF.out, HV.out]
                  have := HOV.out
                  simp only [Option.bind_some]
                  rw [if_pos (by omega)]
                refine ⟨k + 1, _, by omega, by go_num, rfl, ?_, ?_, ?_, ?_, HA.out (by rw [HV.out]; exact hv3)⟩
                · rw [IntKind.wrap_u64]; omega
                · rw [IntKind.wrap_u64]; omega
                · rw [hfn]; have := HOV.out; simp; omega
                · rw [hfn]; simp
              case measure => simp [intOf]; omega
        · go_wp2_with (go_at_call 107; refine (value_any _ _ (by omega)).mono ?_; rintro e w1 ⟨rfl, rfl⟩; rw [if_pos hv2, decide_eq_true hv2])
          go_ret2
          rw [readS_bad 10 20 l c (List.mem_of_getElem? HX.out) (by unfold val; omega)]
          exact ⟨rfl, rfl⟩
      · go_wp2_with (go_at_call 107; refine (value_any _ _ (by omega)).mono ?_; rintro e w1 ⟨rfl, rfl⟩; rw [if_neg hv2, decide_eq_false hv2])
        go_ret2
        rw [readS_bad 10 20 l c (List.mem_of_getElem? HX.out) (by unfold val; omega)]
        exact ⟨rfl, rfl⟩
    · obtain rfl : k = l.length := by omega
      rw [List.take_length] at *
      cases hl2 : l with
      | nil =>
        subst hl2
        go_wp2
        go_ret2
        rw [readS_nil]
        exact ⟨rfl, rfl⟩
      | cons a m =>
        have hne : l ≠ [] := by rw [hl2]; simp
        have HL2 := Lib.hid hl2
        rw [← hl2]
        clear hl2
        have he : l.isEmpty = false := by simpa using hne
        have hr := readS_good 10 20 l hne hall
        by_cases h16 : 20 < l.length
        · rw [if_pos h16] at hr
          have HR := Lib.hid hr
          clear hr
          go_wp2
          go_ret2
          rw [HR.out]
          exact ⟨rfl, rfl⟩
        · rw [if_neg h16] at hr
          cases hF : foldO 10 l 0 with
          | none =>
            rw [hF] at hr
            have HR := Lib.hid hr
            clear hr hF hxm
            go_wp2
            go_ret2
            rw [HR.out]
            exact ⟨rfl, rfl⟩
          | some q =>
            rw [hF] at hr
            obtain rfl : x = q := hxm q hF
            have HR := Lib.hid hr
            clear hr hF hxm
            go_wp2
            go_ret2
            rw [HR.out]
            exact ⟨rfl, rfl⟩
set_option maxRecDepth 100000 in
set_option maxHeartbeats 2000000 in
theorem RefRead16_any (l : List UInt8) (most : Int) (w : World) (hl : l.length ≤ 4611686018427387904) (hm0 : 0 ≤ most) (hm1 : most ≤ 4611686018427387904) :
    Calls Try.prog 58 #[.string ⟨l.toArray⟩, .int .u64 16, .int .i64 most] w fun e w' => e = .returned (.tuple #[.int .u64 (readS 16 most.toNat l).1, .int .i64 (readS 16 most.toNat l).2]) ∧ w = w' := by
  have hsz : (ByteArray.mk l.toArray).size = l.length := by simp [ByteArray.size_mk']
  cases hl2 : l with
  | nil =>
    subst hl2
    go_enter Try.func58, Try.ntmps58
    go_wp2
    go_ret2
    rw [readS_nil]
    exact ⟨rfl, rfl⟩
  | cons a m =>
    have hne : l ≠ [] := by rw [hl2]; simp
    have HL2 := Lib.hid hl2
    rw [← hl2]
    clear hl2
    have he : l.isEmpty = false := by simpa using hne
    go_enter Try.func58, Try.ntmps58
    go_wp2
    go_loop [8] (fun i => ∃ (k : Nat), k ≤ l.length ∧ i = .int .i64 k ∧ ∀ c ∈ l.take k, val c < 16) (fun i => l.length - (intOf i).toNat)
    case atStart => exact ⟨0, by omega, rfl, by simp⟩
    case round =>
      obtain ⟨k, hk, rfl, hall⟩ := hrel
      by_cases hlt : k < l.length
      · obtain ⟨c, hx⟩ : ∃ c, l[k]? = some c := ⟨_, List.getElem?_eq_getElem hlt⟩
        have hget := str_get l k c hx
        have HA := Lib.hid (take_all (p := fun c => val c < 16) l k c hx hall)
        have HX := Lib.hid hx
        have hc2 := c.toNat_lt
        have hv := valN_le c.toNat
        clear hx hall
        go_wp2_with (go_at_call 112; refine (Value_any _ _ (by omega)).mono ?_; rintro e w1 ⟨rfl, rfl⟩)
        · have hbad : 16 ≤ valN c.toNat := by omega
          go_ret2
          rw [readS_bad 16 _ l c (List.mem_of_getElem? HX.out) hbad]
          exact ⟨rfl, rfl⟩
        · have hgood : valN c.toNat < 16 := by omega
          go_round
          case rel => exact ⟨k + 1, by omega, by go_num, HA.out hgood⟩
          case measure => simp [intOf]; omega
      · obtain rfl : k = l.length := by omega
        rw [List.take_length] at *
        have hr := readS_good 16 most.toNat l hne hall
        have HALL := Lib.hid hall
        by_cases h16 : most.toNat < l.length
        · rw [if_pos h16] at hr
          have HR := Lib.hid hr
          clear hr hall
          go_wp2
          go_ret2
          rw [HR.out]
          exact ⟨rfl, rfl⟩
        · rw [if_neg h16] at hr
          have HR := Lib.hid hr
          clear hr hall
          go_wp2
          go_loop [9, 10] (fun a i => ∃ (k m : Nat), k ≤ l.length ∧ i = .int .i64 k ∧ a = .int .u64 m ∧ m ≤ 18446744073709551615 ∧ foldO 16 (l.take k) 0 = some m ∧ (foldO 16 l 0 = foldO 16 (l.drop k) m)) (fun _ i => l.length - (intOf i).toNat)
          case atStart => exact ⟨0, 0, by omega, rfl, rfl, by omega, by simp [foldO], by simp⟩
          case round =>
            obtain ⟨k, m, hk, rfl, rfl, hm, hF, hD⟩ := hrel
            by_cases hlt : k < l.length
            · obtain ⟨c, hx⟩ : ∃ c, l[k]? = some c := ⟨_, List.getElem?_eq_getElem hlt⟩
              have hget := str_get l k c hx
              have hdr : l.drop k = c :: l.drop (k + 1) := by
                obtain ⟨h1, h2⟩ := List.getElem?_eq_some_iff.1 hx
                rw [List.drop_eq_getElem_cons h1, h2]
              have hT := foldO_take 16 l k c hx
              have hgood : valN c.toNat < 16 := HALL.out c (List.mem_of_getElem? hx)
              have hc2 := c.toNat_lt
              have HV : Hid (val c = valN c.toNat) := rfl
              rw [hdr, foldO, HV.out] at hD
              rw [hF, Option.bind_some, HV.out] at hT
              generalize hd : valN c.toNat = d at *
              have HD := Lib.hid hd
              clear hd hdr hx hF
              by_cases hov : m ≤ (18446744073709551615 - d) / 16
              · rw [if_neg (by omega)] at hD hT
                have HOV := Lib.hid hov
                have HDD := Lib.hid hD
                have HTT := Lib.hid hT
                clear hD hT
                go_wp2_with (go_at_call 112; refine (Value_any _ _ (by omega)).mono ?_; rintro e w1 ⟨rfl, rfl⟩; rw [HD.out])
                have hov2 := HOV.out
                go_round
                case rel => exact ⟨k + 1, 16 * m + d, by omega, by go_num, by go_num, by omega, HTT.out, HDD.out⟩
                case measure => simp [intOf]; omega
              · rw [if_pos (by omega)] at hD
                have HOV := Lib.hid hov
                have HDD := Lib.hid hD
                clear hD hT
                go_wp2_with (go_at_call 112; refine (Value_any _ _ (by omega)).mono ?_; rintro e w1 ⟨rfl, rfl⟩; rw [HD.out])
                go_ret2
                rw [HR.out, HDD.out]
                exact ⟨rfl, rfl⟩
            · obtain rfl : k = l.length := by omega
              rw [List.take_length] at hF
              have HF := Lib.hid hF
              clear hF hD
              go_wp2
              go_ret2
              rw [HR.out, HF.out]
              exact ⟨rfl, rfl⟩
set_option maxRecDepth 100000 in
set_option maxHeartbeats 2000000 in
theorem RefRead10_any (l : List UInt8) (most : Int) (w : World) (hl : l.length ≤ 4611686018427387904) (hm0 : 0 ≤ most) (hm1 : most ≤ 4611686018427387904) :
    Calls Try.prog 58 #[.string ⟨l.toArray⟩, .int .u64 10, .int .i64 most] w fun e w' => e = .returned (.tuple #[.int .u64 (readS 10 most.toNat l).1, .int .i64 (readS 10 most.toNat l).2]) ∧ w = w' := by
  have hsz : (ByteArray.mk l.toArray).size = l.length := by simp [ByteArray.size_mk']
  cases hl2 : l with
  | nil =>
    subst hl2
    go_enter Try.func58, Try.ntmps58
    go_wp2
    go_ret2
    rw [readS_nil]
    exact ⟨rfl, rfl⟩
  | cons a m =>
    have hne : l ≠ [] := by rw [hl2]; simp
    have HL2 := Lib.hid hl2
    rw [← hl2]
    clear hl2
    have he : l.isEmpty = false := by simpa using hne
    go_enter Try.func58, Try.ntmps58
    go_wp2
    go_loop [8] (fun i => ∃ (k : Nat), k ≤ l.length ∧ i = .int .i64 k ∧ ∀ c ∈ l.take k, val c < 10) (fun i => l.length - (intOf i).toNat)
    case atStart => exact ⟨0, by omega, rfl, by simp⟩
    case round =>
      obtain ⟨k, hk, rfl, hall⟩ := hrel
      by_cases hlt : k < l.length
      · obtain ⟨c, hx⟩ : ∃ c, l[k]? = some c := ⟨_, List.getElem?_eq_getElem hlt⟩
        have hget := str_get l k c hx
        have HA := Lib.hid (take_all (p := fun c => val c < 10) l k c hx hall)
        have HX := Lib.hid hx
        have hc2 := c.toNat_lt
        have hv := valN_le c.toNat
        clear hx hall
        go_wp2_with (go_at_call 112; refine (Value_any _ _ (by omega)).mono ?_; rintro e w1 ⟨rfl, rfl⟩)
        · have hbad : 10 ≤ valN c.toNat := by omega
          go_ret2
          rw [readS_bad 10 _ l c (List.mem_of_getElem? HX.out) hbad]
          exact ⟨rfl, rfl⟩
        · have hgood : valN c.toNat < 10 := by omega
          go_round
          case rel => exact ⟨k + 1, by omega, by go_num, HA.out hgood⟩
          case measure => simp [intOf]; omega
      · obtain rfl : k = l.length := by omega
        rw [List.take_length] at *
        have hr := readS_good 10 most.toNat l hne hall
        have HALL := Lib.hid hall
        by_cases h16 : most.toNat < l.length
        · rw [if_pos h16] at hr
          have HR := Lib.hid hr
          clear hr hall
          go_wp2
          go_ret2
          rw [HR.out]
          exact ⟨rfl, rfl⟩
        · rw [if_neg h16] at hr
          have HR := Lib.hid hr
          clear hr hall
          go_wp2
          go_loop [9, 10] (fun a i => ∃ (k m : Nat), k ≤ l.length ∧ i = .int .i64 k ∧ a = .int .u64 m ∧ m ≤ 18446744073709551615 ∧ foldO 10 (l.take k) 0 = some m ∧ (foldO 10 l 0 = foldO 10 (l.drop k) m)) (fun _ i => l.length - (intOf i).toNat)
          case atStart => exact ⟨0, 0, by omega, rfl, rfl, by omega, by simp [foldO], by simp⟩
          case round =>
            obtain ⟨k, m, hk, rfl, rfl, hm, hF, hD⟩ := hrel
            by_cases hlt : k < l.length
            · obtain ⟨c, hx⟩ : ∃ c, l[k]? = some c := ⟨_, List.getElem?_eq_getElem hlt⟩
              have hget := str_get l k c hx
              have hdr : l.drop k = c :: l.drop (k + 1) := by
                obtain ⟨h1, h2⟩ := List.getElem?_eq_some_iff.1 hx
                rw [List.drop_eq_getElem_cons h1, h2]
              have hT := foldO_take 10 l k c hx
              have hgood : valN c.toNat < 10 := HALL.out c (List.mem_of_getElem? hx)
              have hc2 := c.toNat_lt
              have HV : Hid (val c = valN c.toNat) := rfl
              rw [hdr, foldO, HV.out] at hD
              rw [hF, Option.bind_some, HV.out] at hT
              generalize hd : valN c.toNat = d at *
              have HD := Lib.hid hd
              clear hd hdr hx hF
              by_cases hov : m ≤ (18446744073709551615 - d) / 10
              · rw [if_neg (by omega)] at hD hT
                have HOV := Lib.hid hov
                have HDD := Lib.hid hD
                have HTT := Lib.hid hT
                clear hD hT
                go_wp2_with (go_at_call 112; refine (Value_any _ _ (by omega)).mono ?_; rintro e w1 ⟨rfl, rfl⟩; rw [HD.out])
                have hov2 := HOV.out
                go_round
                case rel => exact ⟨k + 1, 10 * m + d, by omega, by go_num, by go_num, by omega, HTT.out, HDD.out⟩
                case measure => simp [intOf]; omega
              · rw [if_pos (by omega)] at hD
                have HOV := Lib.hid hov
                have HDD := Lib.hid hD
                clear hD hT
                go_wp2_with (go_at_call 112; refine (Value_any _ _ (by omega)).mono ?_; rintro e w1 ⟨rfl, rfl⟩; rw [HD.out])
                go_ret2
                rw [HR.out, HDD.out]
                exact ⟨rfl, rfl⟩
            · obtain rfl : k = l.length := by omega
              rw [List.take_length] at hF
              have HF := Lib.hid hF
              clear hF hD
              go_wp2
              go_ret2
              rw [HR.out, HF.out]
              exact ⟨rfl, rfl⟩
end Go.Proofs.Ytgebopmiefgdoaa

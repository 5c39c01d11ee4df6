/-
  Contract of the law's own fields of two records.
-/
import Derived.Test.YtgebopmiefgdoaaFields2
namespace Go.Proofs.Ytgebopmiefgdoaa
open Go.RowKit
/-- The first k names, those that are so. -/
def namesK (k : Nat) (u0 u1 u2 u3 u4 u5 u6 u7 u8 : Bool) : List ByteArray := (((((((((([] : List ByteArray) ++ if decide (0 < k) && u0 then [⟨#[65, 68, 68, 82]⟩] else []) ++ if decide (1 < k) && u1 then [⟨#[68, 65, 84, 65]⟩] else []) ++ if decide (2 < k) && u2 then [⟨#[82, 69, 65, 68]⟩] else []) ++ if decide (3 < k) && u3 then [⟨#[66, 65]⟩] else []) ++ if decide (4 < k) && u4 then [⟨#[66, 83]⟩] else []) ++ if decide (5 < k) && u5 then [⟨#[76, 73, 67]⟩] else []) ++ if decide (6 < k) && u6 then [⟨#[65, 86, 77, 65]⟩] else []) ++ if decide (7 < k) && u7 then [⟨#[66, 85, 83, 89]⟩] else []) ++ if decide (8 < k) && u8 then [⟨#[77, 73, 78, 69]⟩] else [])
theorem namesK_ok (k : Nat) (u0 u1 u2 u3 u4 u5 u6 u7 u8 : Bool) : (∀ b ∈ namesK k u0 u1 u2 u3 u4 u5 u6 u7 u8, b.data.toList.length ≤ 8 ∧ b.data.toList ≠ []) ∧ (namesK k u0 u1 u2 u3 u4 u5 u6 u7 u8).length ≤ 9 := by
  unfold namesK
  generalize (decide (0 < k) && u0) = v0
  generalize (decide (1 < k) && u1) = v1
  generalize (decide (2 < k) && u2) = v2
  generalize (decide (3 < k) && u3) = v3
  generalize (decide (4 < k) && u4) = v4
  generalize (decide (5 < k) && u5) = v5
  generalize (decide (6 < k) && u6) = v6
  generalize (decide (7 < k) && u7) = v7
  generalize (decide (8 < k) && u8) = v8
  constructor
  · intro b hb
    simp only [List.mem_append, List.not_mem_nil, false_or] at hb
    have hq : ∀ (u : Bool) (n : ByteArray), b ∈ (if u then [n] else []) → b = n := fun u n h => by cases u <;> simp at h; exact h
    rcases hb with ((((((((h | h) | h) | h) | h) | h) | h) | h) | h)
    all_goals (obtain rfl := hq _ _ h; decide)
  · refine Nat.le_trans (names_len _ _ _ 8 ?_) (Nat.le_refl _)
    refine names_len _ _ _ 7 ?_
    refine names_len _ _ _ 6 ?_
    refine names_len _ _ _ 5 ?_
    refine names_len _ _ _ 4 ?_
    refine names_len _ _ _ 3 ?_
    refine names_len _ _ _ 2 ?_
    refine names_len _ _ _ 1 ?_
    exact names_len _ _ _ 0 (Nat.le_refl _)
def jn (L : List ByteArray) : List UInt8 := Lib.join (L.map (·.data.toList)) [32]
theorem join_snoc (l : List (List UInt8)) (z sep : List UInt8) (h : l ≠ []) : Lib.join (l ++ [z]) sep = Lib.join l sep ++ sep ++ z := by
  cases l with
  | nil => exact absurd rfl h
  | cons x l =>
    rw [List.cons_append, Lib.join_cons, Lib.join_cons]
    simp [Lib.joinTail]
theorem jn_one (z : ByteArray) : jn [z] = z.data.toList := by simp [jn, Lib.join_one]
theorem jn_snoc (L : List ByteArray) (z : ByteArray) (h : L ≠ []) : jn (L ++ [z]) = jn L ++ [32] ++ z.data.toList := by
  unfold jn
  rw [List.map_append, List.map_cons, List.map_nil]
  exact join_snoc _ _ _ (by simpa using h)
theorem jn_ne (L : List ByteArray) (h : ∀ b ∈ L, b.data.toList.length ≤ 8 ∧ b.data.toList ≠ []) (hn : L ≠ []) : jn L ≠ [] := by
  cases L with
  | nil => exact absurd rfl hn
  | cons b L =>
    unfold jn
    rw [List.map_cons, Lib.join_cons]
    intro e
    exact (h b List.mem_cons_self).2 (List.append_eq_nil_iff.1 e).1
theorem jn_len (L : List ByteArray) (h : ∀ b ∈ L, b.data.toList.length ≤ 8 ∧ b.data.toList ≠ []) (hn : L.length ≤ 9) : (jn L).length ≤ 900 := by
  refine join_short _ (fun z hz => ?_) (by rw [List.length_map]; omega)
  obtain ⟨b, hb, rfl⟩ := List.mem_map.1 hz
  exact (h b hb).1
set_option maxRecDepth 100000 in
set_option maxHeartbeats 8000000 in
theorem Fields51_any (x y : Rec) (w : World) :
    Calls Try.prog 103 #[.agg #[.int .u16 x.addr, .int .u8 x.data, .bool x.read, .bool x.ba, .bool x.bs, .bool x.lic, .bool x.avma, .bool x.busy, .bool x.mine], .agg #[.int .u16 y.addr, .int .u8 y.data, .bool y.read, .bool y.ba, .bool y.bs, .bool y.lic, .bool y.avma, .bool y.busy, .bool y.mine]] w fun e w' => e = .returned (.string ⟨(fieldsL x y).toArray⟩) ∧ Below w.heap.size w w' := by
  have HFL : Hid (fieldsL x y = jn (namesK 9 (x.addr != y.addr) (x.data != y.data) (!(x.read == y.read)) (!(x.ba == y.ba)) (!(x.bs == y.bs)) (!(x.lic == y.lic)) (!(x.avma == y.avma)) (!(x.busy == y.busy)) (!(x.mine == y.mine)))) := by
    show fieldsL x y = jn (namesK 9 (x.addr != y.addr) (x.data != y.data) (!(x.read == y.read)) (!(x.ba == y.ba)) (!(x.bs == y.bs)) (!(x.lic == y.lic)) (!(x.avma == y.avma)) (!(x.busy == y.busy)) (!(x.mine == y.mine)))
    simp only [fieldsL, jn, namesB, namesK, show (0:Nat) < 9 from by omega, show (1:Nat) < 9 from by omega, show (2:Nat) < 9 from by omega, show (3:Nat) < 9 from by omega, show (4:Nat) < 9 from by omega, show (5:Nat) < 9 from by omega, show (6:Nat) < 9 from by omega, show (7:Nat) < 9 from by omega, show (8:Nat) < 9 from by omega, decide_true, Bool.true_and]
  go_enter Try.func103, Try.ntmps103
  go_wp2
  generalize (x.addr != y.addr) = u0 at *
  generalize (x.data != y.data) = u1 at *
  generalize (!(x.read == y.read)) = u2 at *
  generalize (!(x.ba == y.ba)) = u3 at *
  generalize (!(x.bs == y.bs)) = u4 at *
  generalize (!(x.lic == y.lic)) = u5 at *
  generalize (!(x.avma == y.avma)) = u6 at *
  generalize (!(x.busy == y.busy)) = u7 at *
  generalize (!(x.mine == y.mine)) = u8 at *
  go_loop [7, 8] (fun s i => ∃ k : Nat, k ≤ 9 ∧ i = .int .i64 k ∧ s = .string ⟨(jn (namesK k u0 u1 u2 u3 u4 u5 u6 u7 u8)).toArray⟩) (fun _ i => 9 - (intOf i).toNat)
  case atStart => exact ⟨0, by omega, rfl, rfl⟩
  case round =>
    obtain ⟨k, hk, rfl, rfl⟩ := hrel
    by_cases h9 : k < 9
    · have nine : k = 0 ∨ k = 1 ∨ k = 2 ∨ k = 3 ∨ k = 4 ∨ k = 5 ∨ k = 6 ∨ k = 7 ∨ k = 8 := by omega
      rcases nine with rfl | rfl | rfl | rfl | rfl | rfl | rfl | rfl | rfl
      · have HV : Hid (namesK 1 u0 u1 u2 u3 u4 u5 u6 u7 u8 = namesK 0 u0 u1 u2 u3 u4 u5 u6 u7 u8 ++ if u0 then [⟨#[65, 68, 68, 82]⟩] else []) := by
          show namesK 1 u0 u1 u2 u3 u4 u5 u6 u7 u8 = namesK 0 u0 u1 u2 u3 u4 u5 u6 u7 u8 ++ if u0 then [⟨#[65, 68, 68, 82]⟩] else []
          simp [namesK]
        obtain ⟨hok, hle⟩ := namesK_ok 0 u0 u1 u2 u3 u4 u5 u6 u7 u8
        generalize namesK 0 u0 u1 u2 u3 u4 u5 u6 u7 u8 = L at *
        have hjl := jn_len L hok hle
        have HBV : Hid (∀ b, u0 = b → namesK 1 u0 u1 u2 u3 u4 u5 u6 u7 u8 = L ++ if b then [⟨#[65, 68, 68, 82]⟩] else []) := fun b hb => by rw [← hb]; exact HV.out
        clear HV
        cases hbk : u0
        · have HN : Hid (namesK 1 u0 u1 u2 u3 u4 u5 u6 u7 u8 = L) := by
            have h := HBV.out _ hbk
            rw [if_neg (by decide), List.append_nil] at h
            exact h
          rw [hbk] at HN
          go_wp2
          go_round
          case rel => exact ⟨1, by omega, rfl, congrArg (fun l : List UInt8 => Value.string ⟨l.toArray⟩) (by rw [HN.out])⟩
          case measure => simp [intOf]
        · have HN : Hid (namesK 1 u0 u1 u2 u3 u4 u5 u6 u7 u8 = L ++ [⟨#[65, 68, 68, 82]⟩]) := by
            have h := HBV.out _ hbk
            rw [if_pos rfl] at h
            exact h
          rw [hbk] at HN
          by_cases hL : L = []
          · subst hL
            have HJ0 : jn [] = [] := rfl
            go_wp2
            go_round
            case rel => exact ⟨1, by omega, rfl, congrArg Value.string (by rw [HN.out, List.nil_append, jn_one]; apply ByteArray.ext; simp)⟩
            case measure => simp [intOf]
          · have hjn := jn_ne L hok hL
            have HJS : Hid (jn (L ++ [⟨#[65, 68, 68, 82]⟩]) = jn L ++ [32] ++ (ByteArray.mk #[65, 68, 68, 82]).data.toList) := jn_snoc L _ hL
            generalize jn L = J at *
            have hJ1 : (J == []) = false := by cases J with
              | nil => exact absurd rfl hjn
              | cons a b => rfl
            have hJ2 : (J != []) = true := by cases J with
              | nil => exact absurd rfl hjn
              | cons a b => rfl
            have hJ3 : J.isEmpty = false := by cases J with
              | nil => exact absurd rfl hjn
              | cons a b => rfl
            go_wp2
            go_round
            case rel => exact ⟨1, by omega, rfl, congrArg Value.string (by rw [HN.out, HJS.out]; apply ByteArray.ext; simp)⟩
            case measure => simp [intOf]
      · have HV : Hid (namesK 2 u0 u1 u2 u3 u4 u5 u6 u7 u8 = namesK 1 u0 u1 u2 u3 u4 u5 u6 u7 u8 ++ if u1 then [⟨#[68, 65, 84, 65]⟩] else []) := by
          show namesK 2 u0 u1 u2 u3 u4 u5 u6 u7 u8 = namesK 1 u0 u1 u2 u3 u4 u5 u6 u7 u8 ++ if u1 then [⟨#[68, 65, 84, 65]⟩] else []
          simp [namesK]
        obtain ⟨hok, hle⟩ := namesK_ok 1 u0 u1 u2 u3 u4 u5 u6 u7 u8
        generalize namesK 1 u0 u1 u2 u3 u4 u5 u6 u7 u8 = L at *
        have hjl := jn_len L hok hle
        have HBV : Hid (∀ b, u1 = b → namesK 2 u0 u1 u2 u3 u4 u5 u6 u7 u8 = L ++ if b then [⟨#[68, 65, 84, 65]⟩] else []) := fun b hb => by rw [← hb]; exact HV.out
        clear HV
        cases hbk : u1
        · have HN : Hid (namesK 2 u0 u1 u2 u3 u4 u5 u6 u7 u8 = L) := by
            have h := HBV.out _ hbk
            rw [if_neg (by decide), List.append_nil] at h
            exact h
          rw [hbk] at HN
          go_wp2
          go_round
          case rel => exact ⟨2, by omega, rfl, congrArg (fun l : List UInt8 => Value.string ⟨l.toArray⟩) (by rw [HN.out])⟩
          case measure => simp [intOf]
        · have HN : Hid (namesK 2 u0 u1 u2 u3 u4 u5 u6 u7 u8 = L ++ [⟨#[68, 65, 84, 65]⟩]) := by
            have h := HBV.out _ hbk
            rw [if_pos rfl] at h
            exact h
          rw [hbk] at HN
          by_cases hL : L = []
          · subst hL
            have HJ0 : jn [] = [] := rfl
            go_wp2
            go_round
            case rel => exact ⟨2, by omega, rfl, congrArg Value.string (by rw [HN.out, List.nil_append, jn_one]; apply ByteArray.ext; simp)⟩
            case measure => simp [intOf]
          · have hjn := jn_ne L hok hL
            have HJS : Hid (jn (L ++ [⟨#[68, 65, 84, 65]⟩]) = jn L ++ [32] ++ (ByteArray.mk #[68, 65, 84, 65]).data.toList) := jn_snoc L _ hL
            generalize jn L = J at *
            have hJ1 : (J == []) = false := by cases J with
              | nil => exact absurd rfl hjn
              | cons a b => rfl
            have hJ2 : (J != []) = true := by cases J with
              | nil => exact absurd rfl hjn
              | cons a b => rfl
            have hJ3 : J.isEmpty = false := by cases J with
              | nil => exact absurd rfl hjn
              | cons a b => rfl
            go_wp2
            go_round
            case rel => exact ⟨2, by omega, rfl, congrArg Value.string (by rw [HN.out, HJS.out]; apply ByteArray.ext; simp)⟩
            case measure => simp [intOf]
      · have HV : Hid (namesK 3 u0 u1 u2 u3 u4 u5 u6 u7 u8 = namesK 2 u0 u1 u2 u3 u4 u5 u6 u7 u8 ++ if u2 then [⟨#[82, 69, 65, 68]⟩] else []) := by
          show namesK 3 u0 u1 u2 u3 u4 u5 u6 u7 u8 = namesK 2 u0 u1 u2 u3 u4 u5 u6 u7 u8 ++ if u2 then [⟨#[82, 69, 65, 68]⟩] else []
          simp [namesK]
        obtain ⟨hok, hle⟩ := namesK_ok 2 u0 u1 u2 u3 u4 u5 u6 u7 u8
        generalize namesK 2 u0 u1 u2 u3 u4 u5 u6 u7 u8 = L at *
        have hjl := jn_len L hok hle
        have HBV : Hid (∀ b, u2 = b → namesK 3 u0 u1 u2 u3 u4 u5 u6 u7 u8 = L ++ if b then [⟨#[82, 69, 65, 68]⟩] else []) := fun b hb => by rw [← hb]; exact HV.out
        clear HV
        cases hbk : u2
        · have HN : Hid (namesK 3 u0 u1 u2 u3 u4 u5 u6 u7 u8 = L) := by
            have h := HBV.out _ hbk
            rw [if_neg (by decide), List.append_nil] at h
            exact h
          rw [hbk] at HN
          go_wp2
          go_round
          case rel => exact ⟨3, by omega, rfl, congrArg (fun l : List UInt8 => Value.string ⟨l.toArray⟩) (by rw [HN.out])⟩
          case measure => simp [intOf]
        · have HN : Hid (namesK 3 u0 u1 u2 u3 u4 u5 u6 u7 u8 = L ++ [⟨#[82, 69, 65, 68]⟩]) := by
            have h := HBV.out _ hbk
            rw [if_pos rfl] at h
            exact h
          rw [hbk] at HN
          by_cases hL : L = []
          · subst hL
            have HJ0 : jn [] = [] := rfl
            go_wp2
            go_round
            case rel => exact ⟨3, by omega, rfl, congrArg Value.string (by rw [HN.out, List.nil_append, jn_one]; apply ByteArray.ext; simp)⟩
            case measure => simp [intOf]
          · have hjn := jn_ne L hok hL
            have HJS : Hid (jn (L ++ [⟨#[82, 69, 65, 68]⟩]) = jn L ++ [32] ++ (ByteArray.mk #[82, 69, 65, 68]).data.toList) := jn_snoc L _ hL
            generalize jn L = J at *
            have hJ1 : (J == []) = false := by cases J with
              | nil => exact absurd rfl hjn
              | cons a b => rfl
            have hJ2 : (J != []) = true := by cases J with
              | nil => exact absurd rfl hjn
              | cons a b => rfl
            have hJ3 : J.isEmpty = false := by cases J with
              | nil => exact absurd rfl hjn
              | cons a b => rfl
            go_wp2
            go_round
            case rel => exact ⟨3, by omega, rfl, congrArg Value.string (by rw [HN.out, HJS.out]; apply ByteArray.ext; simp)⟩
            case measure => simp [intOf]
      · have HV : Hid (namesK 4 u0 u1 u2 u3 u4 u5 u6 u7 u8 = namesK 3 u0 u1 u2 u3 u4 u5 u6 u7 u8 ++ if u3 then [⟨#[66, 65]⟩] else []) := by
          show namesK 4 u0 u1 u2 u3 u4 u5 u6 u7 u8 = namesK 3 u0 u1 u2 u3 u4 u5 u6 u7 u8 ++ if u3 then [⟨#[66, 65]⟩] else []
          simp [namesK]
        obtain ⟨hok, hle⟩ := namesK_ok 3 u0 u1 u2 u3 u4 u5 u6 u7 u8
        generalize namesK 3 u0 u1 u2 u3 u4 u5 u6 u7 u8 = L at *
        have hjl := jn_len L hok hle
        have HBV : Hid (∀ b, u3 = b → namesK 4 u0 u1 u2 u3 u4 u5 u6 u7 u8 = L ++ if b then [⟨#[66, 65]⟩] else []) := fun b hb => by rw [← hb]; exact HV.out
        clear HV
        cases hbk : u3
        · have HN : Hid (namesK 4 u0 u1 u2 u3 u4 u5 u6 u7 u8 = L) := by
            have h := HBV.out _ hbk
            rw [if_neg (by decide), List.append_nil] at h
            exact h
          rw [hbk] at HN
          go_wp2
          go_round
          case rel => exact ⟨4, by omega, rfl, congrArg (fun l : List UInt8 => Value.string ⟨l.toArray⟩) (by rw [HN.out])⟩
          case measure => simp [intOf]
        · have HN : Hid (namesK 4 u0 u1 u2 u3 u4 u5 u6 u7 u8 = L ++ [⟨#[66, 65]⟩]) := by
            have h := HBV.out _ hbk
            rw [if_pos rfl] at h
            exact h
          rw [hbk] at HN
          by_cases hL : L = []
          · subst hL
            have HJ0 : jn [] = [] := rfl
            go_wp2
            go_round
            case rel => exact ⟨4, by omega, rfl, congrArg Value.string (by rw [HN.out, List.nil_append, jn_one]; apply ByteArray.ext; simp)⟩
            case measure => simp [intOf]
          · have hjn := jn_ne L hok hL
            have HJS : Hid (jn (L ++ [⟨#[66, 65]⟩]) = jn L ++ [32] ++ (ByteArray.mk #[66, 65]).data.toList) := jn_snoc L _ hL
            generalize jn L = J at *
            have hJ1 : (J == []) = false := by cases J with
              | nil => exact absurd rfl hjn
              | cons a b => rfl
            have hJ2 : (J != []) = true := by cases J with
              | nil => exact absurd rfl hjn
              | cons a b => rfl
            have hJ3 : J.isEmpty = false := by cases J with
              | nil => exact absurd rfl hjn
              | cons a b => rfl
            go_wp2
            go_round
            case rel => exact ⟨4, by omega, rfl, congrArg Value.string (by rw [HN.out, HJS.out]; apply ByteArray.ext; simp)⟩
            case measure => simp [intOf]
      · have HV : Hid (namesK 5 u0 u1 u2 u3 u4 u5 u6 u7 u8 = namesK 4 u0 u1 u2 u3 u4 u5 u6 u7 u8 ++ if u4 then [⟨#[66, 83]⟩] else []) := by
          show namesK 5 u0 u1 u2 u3 u4 u5 u6 u7 u8 = namesK 4 u0 u1 u2 u3 u4 u5 u6 u7 u8 ++ if u4 then [⟨#[66, 83]⟩] else []
          simp [namesK]
        obtain ⟨hok, hle⟩ := namesK_ok 4 u0 u1 u2 u3 u4 u5 u6 u7 u8
        generalize namesK 4 u0 u1 u2 u3 u4 u5 u6 u7 u8 = L at *
        have hjl := jn_len L hok hle
        have HBV : Hid (∀ b, u4 = b → namesK 5 u0 u1 u2 u3 u4 u5 u6 u7 u8 = L ++ if b then [⟨#[66, 83]⟩] else []) := fun b hb => by rw [← hb]; exact HV.out
        clear HV
        cases hbk : u4
        · have HN : Hid (namesK 5 u0 u1 u2 u3 u4 u5 u6 u7 u8 = L) := by
            have h := HBV.out _ hbk
            rw [if_neg (by decide), List.append_nil] at h
            exact h
          rw [hbk] at HN
          go_wp2
          go_round
          case rel => exact ⟨5, by omega, rfl, congrArg (fun l : List UInt8 => Value.string ⟨l.toArray⟩) (by rw [HN.out])⟩
          case measure => simp [intOf]
        · have HN : Hid (namesK 5 u0 u1 u2 u3 u4 u5 u6 u7 u8 = L ++ [⟨#[66, 83]⟩]) := by
            have h := HBV.out _ hbk
            rw [if_pos rfl] at h
            exact h
          rw [hbk] at HN
          by_cases hL : L = []
          · subst hL
            have HJ0 : jn [] = [] := rfl
            go_wp2
            go_round
            case rel => exact ⟨5, by omega, rfl, congrArg Value.string (by rw [HN.out, List.nil_append, jn_one]; apply ByteArray.ext; simp)⟩
            case measure => simp [intOf]
          · have hjn := jn_ne L hok hL
            have HJS : Hid (jn (L ++ [⟨#[66, 83]⟩]) = jn L ++ [32] ++ (ByteArray.mk #[66, 83]).data.toList) := jn_snoc L _ hL
            generalize jn L = J at *
            have hJ1 : (J == []) = false := by cases J with
              | nil => exact absurd rfl hjn
              | cons a b => rfl
            have hJ2 : (J != []) = true := by cases J with
              | nil => exact absurd rfl hjn
              | cons a b => rfl
            have hJ3 : J.isEmpty = false := by cases J with
              | nil => exact absurd rfl hjn
              | cons a b => rfl
            go_wp2
            go_round
            case rel => exact ⟨5, by omega, rfl, congrArg Value.string (by rw [HN.out, HJS.out]; apply ByteArray.ext; simp)⟩
            case measure => simp [intOf]
      · have HV : Hid (namesK 6 u0 u1 u2 u3 u4 u5 u6 u7 u8 = namesK 5 u0 u1 u2 u3 u4 u5 u6 u7 u8 ++ if u5 then [⟨#[76, 73, 67]⟩] else []) := by
          show namesK 6 u0 u1 u2 u3 u4 u5 u6 u7 u8 = namesK 5 u0 u1 u2 u3 u4 u5 u6 u7 u8 ++ if u5 then [⟨#[76, 73, 67]⟩] else []
          simp [namesK]
        obtain ⟨hok, hle⟩ := namesK_ok 5 u0 u1 u2 u3 u4 u5 u6 u7 u8
        generalize namesK 5 u0 u1 u2 u3 u4 u5 u6 u7 u8 = L at *
        have hjl := jn_len L hok hle
        have HBV : Hid (∀ b, u5 = b → namesK 6 u0 u1 u2 u3 u4 u5 u6 u7 u8 = L ++ if b then [⟨#[76, 73, 67]⟩] else []) := fun b hb => by rw [← hb]; exact HV.out
        clear HV
        cases hbk : u5
        · have HN : Hid (namesK 6 u0 u1 u2 u3 u4 u5 u6 u7 u8 = L) := by
            have h := HBV.out _ hbk
            rw [if_neg (by decide), List.append_nil] at h
            exact h
          rw [hbk] at HN
          go_wp2
          go_round
          case rel => exact ⟨6, by omega, rfl, congrArg (fun l : List UInt8 => Value.string ⟨l.toArray⟩) (by rw [HN.out])⟩
          case measure => simp [intOf]
        · have HN : Hid (namesK 6 u0 u1 u2 u3 u4 u5 u6 u7 u8 = L ++ [⟨#[76, 73, 67]⟩]) := by
            have h := HBV.out _ hbk
            rw [if_pos rfl] at h
            exact h
          rw [hbk] at HN
          by_cases hL : L = []
          · subst hL
            have HJ0 : jn [] = [] := rfl
            go_wp2
            go_round
            case rel => exact ⟨6, by omega, rfl, congrArg Value.string (by rw [HN.out, List.nil_append, jn_one]; apply ByteArray.ext; simp)⟩
            case measure => simp [intOf]
          · have hjn := jn_ne L hok hL
            have HJS : Hid (jn (L ++ [⟨#[76, 73, 67]⟩]) = jn L ++ [32] ++ (ByteArray.mk #[76, 73, 67]).data.toList) := jn_snoc L _ hL
            generalize jn L = J at *
            have hJ1 : (J == []) = false := by cases J with
              | nil => exact absurd rfl hjn
              | cons a b => rfl
            have hJ2 : (J != []) = true := by cases J with
              | nil => exact absurd rfl hjn
              | cons a b => rfl
            have hJ3 : J.isEmpty = false := by cases J with
              | nil => exact absurd rfl hjn
              | cons a b => rfl
            go_wp2
            go_round
            case rel => exact ⟨6, by omega, rfl, congrArg Value.string (by rw [HN.out, HJS.out]; apply ByteArray.ext; simp)⟩
            case measure => simp [intOf]
      · have HV : Hid (namesK 7 u0 u1 u2 u3 u4 u5 u6 u7 u8 = namesK 6 u0 u1 u2 u3 u4 u5 u6 u7 u8 ++ if u6 then [⟨#[65, 86, 77, 65]⟩] else []) := by
          show namesK 7 u0 u1 u2 u3 u4 u5 u6 u7 u8 = namesK 6 u0 u1 u2 u3 u4 u5 u6 u7 u8 ++ if u6 then [⟨#[65, 86, 77, 65]⟩] else []
          simp [namesK]
        obtain ⟨hok, hle⟩ := namesK_ok 6 u0 u1 u2 u3 u4 u5 u6 u7 u8
        generalize namesK 6 u0 u1 u2 u3 u4 u5 u6 u7 u8 = L at *
        have hjl := jn_len L hok hle
        have HBV : Hid (∀ b, u6 = b → namesK 7 u0 u1 u2 u3 u4 u5 u6 u7 u8 = L ++ if b then [⟨#[65, 86, 77, 65]⟩] else []) := fun b hb => by rw [← hb]; exact HV.out
        clear HV
        cases hbk : u6
        · have HN : Hid (namesK 7 u0 u1 u2 u3 u4 u5 u6 u7 u8 = L) := by
            have h := HBV.out _ hbk
            rw [if_neg (by decide), List.append_nil] at h
            exact h
          rw [hbk] at HN
          go_wp2
          go_round
          case rel => exact ⟨7, by omega, rfl, congrArg (fun l : List UInt8 => Value.string ⟨l.toArray⟩) (by rw [HN.out])⟩
          case measure => simp [intOf]
        · have HN : Hid (namesK 7 u0 u1 u2 u3 u4 u5 u6 u7 u8 = L ++ [⟨#[65, 86, 77, 65]⟩]) := by
            have h := HBV.out _ hbk
            rw [if_pos rfl] at h
            exact h
          rw [hbk] at HN
          by_cases hL : L = []
          · subst hL
            have HJ0 : jn [] = [] := rfl
            go_wp2
            go_round
            case rel => exact ⟨7, by omega, rfl, congrArg Value.string (by rw [HN.out, List.nil_append, jn_one]; apply ByteArray.ext; simp)⟩
            case measure => simp [intOf]
          · have hjn := jn_ne L hok hL
            have HJS : Hid (jn (L ++ [⟨#[65, 86, 77, 65]⟩]) = jn L ++ [32] ++ (ByteArray.mk #[65, 86, 77, 65]).data.toList) := jn_snoc L _ hL
            generalize jn L = J at *
            have hJ1 : (J == []) = false := by cases J with
              | nil => exact absurd rfl hjn
              | cons a b => rfl
            have hJ2 : (J != []) = true := by cases J with
              | nil => exact absurd rfl hjn
              | cons a b => rfl
            have hJ3 : J.isEmpty = false := by cases J with
              | nil => exact absurd rfl hjn
              | cons a b => rfl
            go_wp2
            go_round
            case rel => exact ⟨7, by omega, rfl, congrArg Value.string (by rw [HN.out, HJS.out]; apply ByteArray.ext; simp)⟩
            case measure => simp [intOf]
      · have HV : Hid (namesK 8 u0 u1 u2 u3 u4 u5 u6 u7 u8 = namesK 7 u0 u1 u2 u3 u4 u5 u6 u7 u8 ++ if u7 then [⟨#[66, 85, 83, 89]⟩] else []) := by
          show namesK 8 u0 u1 u2 u3 u4 u5 u6 u7 u8 = namesK 7 u0 u1 u2 u3 u4 u5 u6 u7 u8 ++ if u7 then [⟨#[66, 85, 83, 89]⟩] else []
          simp [namesK]
        obtain ⟨hok, hle⟩ := namesK_ok 7 u0 u1 u2 u3 u4 u5 u6 u7 u8
        generalize namesK 7 u0 u1 u2 u3 u4 u5 u6 u7 u8 = L at *
        have hjl := jn_len L hok hle
        have HBV : Hid (∀ b, u7 = b → namesK 8 u0 u1 u2 u3 u4 u5 u6 u7 u8 = L ++ if b then [⟨#[66, 85, 83, 89]⟩] else []) := fun b hb => by rw [← hb]; exact HV.out
        clear HV
        cases hbk : u7
        · have HN : Hid (namesK 8 u0 u1 u2 u3 u4 u5 u6 u7 u8 = L) := by
            have h := HBV.out _ hbk
            rw [if_neg (by decide), List.append_nil] at h
            exact h
          rw [hbk] at HN
          go_wp2
          go_round
          case rel => exact ⟨8, by omega, rfl, congrArg (fun l : List UInt8 => Value.string ⟨l.toArray⟩) (by rw [HN.out])⟩
          case measure => simp [intOf]
        · have HN : Hid (namesK 8 u0 u1 u2 u3 u4 u5 u6 u7 u8 = L ++ [⟨#[66, 85, 83, 89]⟩]) := by
            have h := HBV.out _ hbk
            rw [if_pos rfl] at h
            exact h
          rw [hbk] at HN
          by_cases hL : L = []
          · subst hL
            have HJ0 : jn [] = [] := rfl
            go_wp2
            go_round
            case rel => exact ⟨8, by omega, rfl, congrArg Value.string (by rw [HN.out, List.nil_append, jn_one]; apply ByteArray.ext; simp)⟩
            case measure => simp [intOf]
          · have hjn := jn_ne L hok hL
            have HJS : Hid (jn (L ++ [⟨#[66, 85, 83, 89]⟩]) = jn L ++ [32] ++ (ByteArray.mk #[66, 85, 83, 89]).data.toList) := jn_snoc L _ hL
            generalize jn L = J at *
            have hJ1 : (J == []) = false := by cases J with
              | nil => exact absurd rfl hjn
              | cons a b => rfl
            have hJ2 : (J != []) = true := by cases J with
              | nil => exact absurd rfl hjn
              | cons a b => rfl
            have hJ3 : J.isEmpty = false := by cases J with
              | nil => exact absurd rfl hjn
              | cons a b => rfl
            go_wp2
            go_round
            case rel => exact ⟨8, by omega, rfl, congrArg Value.string (by rw [HN.out, HJS.out]; apply ByteArray.ext; simp)⟩
            case measure => simp [intOf]
      · have HV : Hid (namesK 9 u0 u1 u2 u3 u4 u5 u6 u7 u8 = namesK 8 u0 u1 u2 u3 u4 u5 u6 u7 u8 ++ if u8 then [⟨#[77, 73, 78, 69]⟩] else []) := by
          show namesK 9 u0 u1 u2 u3 u4 u5 u6 u7 u8 = namesK 8 u0 u1 u2 u3 u4 u5 u6 u7 u8 ++ if u8 then [⟨#[77, 73, 78, 69]⟩] else []
          simp [namesK]
        obtain ⟨hok, hle⟩ := namesK_ok 8 u0 u1 u2 u3 u4 u5 u6 u7 u8
        generalize namesK 8 u0 u1 u2 u3 u4 u5 u6 u7 u8 = L at *
        have hjl := jn_len L hok hle
        have HBV : Hid (∀ b, u8 = b → namesK 9 u0 u1 u2 u3 u4 u5 u6 u7 u8 = L ++ if b then [⟨#[77, 73, 78, 69]⟩] else []) := fun b hb => by rw [← hb]; exact HV.out
        clear HV
        cases hbk : u8
        · have HN : Hid (namesK 9 u0 u1 u2 u3 u4 u5 u6 u7 u8 = L) := by
            have h := HBV.out _ hbk
            rw [if_neg (by decide), List.append_nil] at h
            exact h
          rw [hbk] at HN
          go_wp2
          go_round
          case rel => exact ⟨9, by omega, rfl, congrArg (fun l : List UInt8 => Value.string ⟨l.toArray⟩) (by rw [HN.out])⟩
          case measure => simp [intOf]
        · have HN : Hid (namesK 9 u0 u1 u2 u3 u4 u5 u6 u7 u8 = L ++ [⟨#[77, 73, 78, 69]⟩]) := by
            have h := HBV.out _ hbk
            rw [if_pos rfl] at h
            exact h
          rw [hbk] at HN
          by_cases hL : L = []
          · subst hL
            have HJ0 : jn [] = [] := rfl
            go_wp2
            go_round
            case rel => exact ⟨9, by omega, rfl, congrArg Value.string (by rw [HN.out, List.nil_append, jn_one]; apply ByteArray.ext; simp)⟩
            case measure => simp [intOf]
          · have hjn := jn_ne L hok hL
            have HJS : Hid (jn (L ++ [⟨#[77, 73, 78, 69]⟩]) = jn L ++ [32] ++ (ByteArray.mk #[77, 73, 78, 69]).data.toList) := jn_snoc L _ hL
            generalize jn L = J at *
            have hJ1 : (J == []) = false := by cases J with
              | nil => exact absurd rfl hjn
              | cons a b => rfl
            have hJ2 : (J != []) = true := by cases J with
              | nil => exact absurd rfl hjn
              | cons a b => rfl
            have hJ3 : J.isEmpty = false := by cases J with
              | nil => exact absurd rfl hjn
              | cons a b => rfl
            go_wp2
            go_round
            case rel => exact ⟨9, by omega, rfl, congrArg Value.string (by rw [HN.out, HJS.out]; apply ByteArray.ext; simp)⟩
            case measure => simp [intOf]
    · obtain rfl : k = 9 := by omega
      go_wp2
      go_ret
      refine ⟨?_, by repeat (first | exact Below.refl _ _ | apply below_alloc)⟩
      rw [HFL.out]
      rfl
end Go.Proofs.Ytgebopmiefgdoaa

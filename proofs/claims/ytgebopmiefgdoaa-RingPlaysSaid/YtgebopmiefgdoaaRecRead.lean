/-
  Contract of record.Read: a text is a record's, or none's.
-/
import Derived.Test.YtgebopmiefgdoaaRecText2
import Derived.Test.YtgebopmiefgdoaaConfRead
namespace Go.Proofs.Ytgebopmiefgdoaa
open Go.RowKit
theorem results_cell_tmp {P : Program} {fn : Func} {p q : Tmp} {ty : TypeId} (h : fn.results = #[.cell p ty, .tmp q]) (tmps : Array Value) (w : World) (g : Nat) (t : TypeId) (cs : Array Value) (fr : Nat × Nat) (d : TypeDesc)
    (hp : tmps.getD p undef = .pointer (some ⟨g, 0, none⟩)) (hg : w.heap[g]? = some (.cells cs t fr))
    (hu : P.underlying ty = some d) (hd : (match d with | .struct _ | .array _ _ => true | _ => false) = true) (hi : (P.info? ty).map (·.size) = some cs.size) :
    (results fn tmps).run P w = .ok (.tuple #[.agg cs, tmps.getD q undef]) w := by
  have hp' : tmps[p]?.getD undef = .pointer (some ⟨g, 0, none⟩) := by simpa using hp
  simp [results, h, hp', asAddr, run_loadVar_row w g t ty cs fr d hg hu hd hi]
def RReadPost (l : List UInt8) (w : World) (e : Ending) (w' : World) : Prop :=
  Below w.heap.size w w' ∧
  ((∃ (a d : Nat) (b0 b1 b2 b3 b4 b5 b6 : Bool), a < 65536 ∧ d < 256 ∧ recL a d b0 b1 b2 b3 b4 b5 b6 = l ∧ e = .returned (.tuple #[.agg #[.int .u16 a, .int .u8 d, .bool b0, .bool b1, .bool b2, .bool b3, .bool b4, .bool b5, .bool b6], .int .i64 0])) ∨
   ((∀ (a d : Nat) (b0 b1 b2 b3 b4 b5 b6 : Bool), a < 65536 → d < 256 → recL a d b0 b1 b2 b3 b4 b5 b6 ≠ l) ∧ e = .returned (.tuple #[.agg #[.int .u16 0, .int .u8 0, .bool false, .bool false, .bool false, .bool false, .bool false, .bool false, .bool false], .int .i64 21])))
theorem seventeen (l : List UInt8) (h : l.length = 17) : ∃ c0 c1 c2 c3 c4 c5 c6 c7 c8 c9 c10 c11 c12 c13 c14 c15 c16, l = [c0, c1, c2, c3, c4, c5, c6, c7, c8, c9, c10, c11, c12, c13, c14, c15, c16] := by
  match l, h with
  | [c0, c1, c2, c3, c4, c5, c6, c7, c8, c9, c10, c11, c12, c13, c14, c15, c16], _ => exact ⟨c0, c1, c2, c3, c4, c5, c6, c7, c8, c9, c10, c11, c12, c13, c14, c15, c16, rfl⟩
theorem readS_small (l : List UInt8) (n k : Nat) (h : readS 16 16 l = (n, 0)) (hk : l.length = k) (h16 : k ≤ 16) : n < 16 ^ k := by
  unfold readS at h
  split at h
  · cases h
  · rename_i hg
    have hne : l ≠ [] := fun e => hg (.inl e)
    have hall : ∀ c ∈ l, val c < 16 := fun c hc => by
      rcases Nat.lt_or_ge (val c) 16 with h1 | h1
      · exact h1
      · exact absurd (.inr ⟨c, hc, h1⟩) hg
    have h2 := (readS_num 16 16 (by omega) l hne hall (by omega) (by decide)).1
    have h3 : readS 16 16 l = (n, 0) := by unfold readS; rw [if_neg hg]; exact h
    rw [h2] at h3
    injection h3 with h3
    subst h3
    rw [← hk]
    exact numB_lt 16 l hall
theorem readA (a : Nat) (ha : a < 65536) : readS 16 16 [dig (a / 16 ^ 3 % 16), dig (a / 16 ^ 2 % 16), dig (a / 16 ^ 1 % 16), dig (a / 16 ^ 0 % 16)] = (a, 0) := readS_ndig 16 16 4 a (by omega) (by omega) (by omega) (by omega) (by omega) (by omega)
theorem readD (d : Nat) (hd : d < 256) : readS 16 16 [dig (d / 16), dig (d % 16)] = (d, 0) := by
  have h := readS_ndig 16 16 2 d (by omega) (by omega) (by omega) (by omega) (by omega) (by omega)
  have e2 : ndig 16 2 d = [dig (d / 16), dig (d % 16)] := by
    show [dig (d / 16 ^ 1 % 16), dig (d / 16 ^ 0 % 16)] = _
    rw [show d / 16 ^ 1 % 16 = d / 16 by omega, show d / 16 ^ 0 % 16 = d % 16 by omega]
  rw [e2] at h
  exact h
theorem sg_eq (b : Bool) (x y : UInt8) (h : x ≠ y) : ((sg b x y).toNat : Int) = (x.toNat : Int) ↔ b = true := by
  cases b
  · simp only [sg, Bool.false_eq_true, if_false, iff_false]
    intro e
    exact h (UInt8.toNat_inj.1 (by omega))
  · simp [sg]
theorem sg_beq (b : Bool) (x y : UInt8) (h : x ≠ y) : (((sg b x y).toNat : Int) == (x.toNat : Int)) = b := by
  have := sg_eq b x y h
  rcases Bool.eq_false_or_eq_true b with hb | hb
  · rw [hb] at this ⊢; simpa using this
  · rw [hb] at this ⊢; simpa using this
theorem recL_read (c0 c1 c2 c3 c4 c5 c6 c7 c8 c9 c10 c11 c12 c13 c14 c15 c16 : UInt8) (a d : Nat) (b0 b1 b2 b3 b4 b5 b6 : Bool) (ha : a < 65536) (hd : d < 256)
    (he : recL a d b0 b1 b2 b3 b4 b5 b6 = [c0, c1, c2, c3, c4, c5, c6, c7, c8, c9, c10, c11, c12, c13, c14, c15, c16]) (n1 n2 : Nat) (h1 : readS 16 16 [c0, c1, c2, c3] = (n1, 0)) (h2 : readS 16 16 [c5, c6] = (n2, 0))
    (F0 F1 F2 F3 F4 F5 F6 : Bool) (hF0 : F0 = ((c8.toNat : Int) == 82)) (hF1 : F1 = ((c10.toNat : Int) == 65)) (hF2 : F2 = ((c11.toNat : Int) == 83)) (hF3 : F3 = ((c12.toNat : Int) == 76)) (hF4 : F4 = ((c13.toNat : Int) == 86)) (hF5 : F5 = ((c14.toNat : Int) == 66)) (hF6 : F6 = ((c16.toNat : Int) == 77)) :
    recL n1 n2 F0 F1 F2 F3 F4 F5 F6 = [c0, c1, c2, c3, c4, c5, c6, c7, c8, c9, c10, c11, c12, c13, c14, c15, c16] := by
  have he0 := he
  unfold recL txt at he
  injection he with e0 he
  injection he with e1 he
  injection he with e2 he
  injection he with e3 he
  injection he with e4 he
  injection he with e5 he
  injection he with e6 he
  injection he with e7 he
  injection he with e8 he
  injection he with e9 he
  injection he with e10 he
  injection he with e11 he
  injection he with e12 he
  injection he with e13 he
  injection he with e14 he
  injection he with e15 he
  injection he with e16 he
  rw [← e0, ← e1, ← e2, ← e3, readA a ha] at h1
  rw [← e5, ← e6, readD d hd] at h2
  have n1e : a = n1 := congrArg Prod.fst h1
  have n2e : d = n2 := congrArg Prod.fst h2
  rw [← e8] at hF0
  rw [← e10] at hF1
  rw [← e11] at hF2
  rw [← e12] at hF3
  rw [← e13] at hF4
  rw [← e14] at hF5
  rw [← e16] at hF6
  have g0 : F0 = b0 := hF0.trans (sg_beq b0 82 87 (by decide))
  have g1 : F1 = b1 := hF1.trans (sg_beq b1 65 45 (by decide))
  have g2 : F2 = b2 := hF2.trans (sg_beq b2 83 45 (by decide))
  have g3 : F3 = b3 := hF3.trans (sg_beq b3 76 45 (by decide))
  have g4 : F4 = b4 := hF4.trans (sg_beq b4 86 45 (by decide))
  have g5 : F5 = b5 := hF5.trans (sg_beq b5 66 45 (by decide))
  have g6 : F6 = b6 := hF6.trans (sg_beq b6 77 45 (by decide))
  rw [← n1e, ← n2e, g0, g1, g2, g3, g4, g5, g6]
  exact he0
theorem recL_err (c0 c1 c2 c3 c4 c5 c6 c7 c8 c9 c10 c11 c12 c13 c14 c15 c16 : UInt8) (a d : Nat) (b0 b1 b2 b3 b4 b5 b6 : Bool) (ha : a < 65536) (hd : d < 256)
    (he : recL a d b0 b1 b2 b3 b4 b5 b6 = [c0, c1, c2, c3, c4, c5, c6, c7, c8, c9, c10, c11, c12, c13, c14, c15, c16]) (n1 e1 n2 e2 : Nat) (h1 : readS 16 16 [c0, c1, c2, c3] = (n1, e1)) (h2 : readS 16 16 [c5, c6] = (n2, e2)) : e1 = 0 ∧ e2 = 0 := by
  unfold recL txt at he
  injection he with e0 he
  injection he with e1' he
  injection he with e2' he
  injection he with e3 he
  injection he with e4 he
  injection he with e5 he
  injection he with e6 he
  rw [← e0, ← e1', ← e2', ← e3, readA a ha] at h1
  rw [← e5, ← e6, readD d hd] at h2
  exact ⟨(congrArg Prod.snd h1).symm, (congrArg Prod.snd h2).symm⟩
theorem recL_inj (a d a' d' : Nat) (b0 b1 b2 b3 b4 b5 b6 b0' b1' b2' b3' b4' b5' b6' : Bool) (ha : a < 65536) (hd : d < 256) (ha' : a' < 65536) (hd' : d' < 256) (h : recL a d b0 b1 b2 b3 b4 b5 b6 = recL a' d' b0' b1' b2' b3' b4' b5' b6') :
    a = a' ∧ d = d' ∧ b0 = b0' ∧ b1 = b1' ∧ b2 = b2' ∧ b3 = b3' ∧ b4 = b4' ∧ b5 = b5' ∧ b6 = b6' := by
  unfold recL txt at h
  injection h with e0 he
  injection he with e1 he
  injection he with e2 he
  injection he with e3 he
  injection he with e4 he
  injection he with e5 he
  injection he with e6 he
  injection he with e7 he
  injection he with e8 he
  injection he with e9 he
  injection he with e10 he
  injection he with e11 he
  injection he with e12 he
  injection he with e13 he
  injection he with e14 he
  injection he with e15 he
  injection he with e16 he
  have h1 := readA a ha
  rw [e0, e1, e2, e3, readA a' ha'] at h1
  have h2 := readD d hd
  rw [e5, e6, readD d' hd'] at h2
  have sgi : ∀ (b b' : Bool) (x y : UInt8), x ≠ y → sg b x y = sg b' x y → b = b' := fun b b' x y hxy e => by
    rw [← sg_beq b x y hxy, ← sg_beq b' x y hxy, e]
  exact ⟨(congrArg Prod.fst h1).symm, (congrArg Prod.fst h2).symm, sgi _ _ 82 87 (by decide) e8, sgi _ _ 65 45 (by decide) e10, sgi _ _ 83 45 (by decide) e11, sgi _ _ 76 45 (by decide) e12, sgi _ _ 86 45 (by decide) e13, sgi _ _ 66 45 (by decide) e14, sgi _ _ 77 45 (by decide) e16⟩
set_option maxRecDepth 100000 in
set_option maxHeartbeats 4000000 in
theorem RRead_any (l : List UInt8) (w : World) (hl : l.length ≤ 4611686018427387904) :
    Calls Try.prog 81 #[.string ⟨l.toArray⟩] w (RReadPost l w) := by
  have hsz : (ByteArray.mk l.toArray).size = l.length := by simp [ByteArray.size_mk']
  by_cases h17 : l.length = 17
  · obtain ⟨c0, c1, c2, c3, c4, c5, c6, c7, c8, c9, c10, c11, c12, c13, c14, c15, c16, rfl⟩ := seventeen l h17
    have e04 : (ByteArray.mk #[c0, c1, c2, c3, c4, c5, c6, c7, c8, c9, c10, c11, c12, c13, c14, c15, c16]).extract 0 4 = ⟨#[c0, c1, c2, c3]⟩ := by apply ByteArray.ext; simp [ByteArray.data_extract]
    have e57 : (ByteArray.mk #[c0, c1, c2, c3, c4, c5, c6, c7, c8, c9, c10, c11, c12, c13, c14, c15, c16]).extract 5 7 = ⟨#[c5, c6]⟩ := by apply ByteArray.ext; simp [ByteArray.data_extract]
    obtain ⟨n1, e1, hr1⟩ : ∃ n1 e1, readS 16 16 [c0, c1, c2, c3] = (n1, e1) := ⟨_, _, rfl⟩
    obtain ⟨n2, e2, hr2⟩ : ∃ n2 e2, readS 16 16 [c5, c6] = (n2, e2) := ⟨_, _, rfl⟩
    have H1 : Hid (∀ W : World, Calls Try.prog 57 #[.string ⟨#[c0, c1, c2, c3]⟩] W fun e w' => e = .returned (.tuple #[.int .u64 n1, .int .i64 e1]) ∧ W = w') := fun W => by
      have h := Read_any [c0, c1, c2, c3] W (by simp)
      rw [hr1] at h
      exact h
    have H2 : Hid (∀ W : World, Calls Try.prog 57 #[.string ⟨#[c5, c6]⟩] W fun e w' => e = .returned (.tuple #[.int .u64 n2, .int .i64 e2]) ∧ W = w') := fun W => by
      have h := Read_any [c5, c6] W (by simp)
      rw [hr2] at h
      exact h
    have HR1 := Lib.hid hr1
    have HR2 := Lib.hid hr2
    clear hr1 hr2
    by_cases he1 : e1 = 0
    · subst he1
      by_cases he2 : e2 = 0
      · subst he2
        go_enter Try.func81, Try.ntmps81
        go_wp2_with ((go_at_call 57; first | (with_reducible refine (H1.out _).mono ?_; rintro e w' ⟨rfl, rfl⟩) | (with_reducible refine (H2.out _).mono ?_; rintro e w' ⟨rfl, rfl⟩)))
        go_region
        go_wp2
        have hb0 : Blk ((w.alloc (.cells #[.int .u16 0, .int .u8 0, .bool false, .bool false, .bool false, .bool false, .bool false, .bool false, .bool false] 64)).alloc (.cells #[.bool ((c8.toNat : Int) == 82), .bool (decide (0 < 0) && ((c10.toNat : Int) == 65)), .bool (decide (1 < 0) && ((c11.toNat : Int) == 83)), .bool (decide (2 < 0) && ((c12.toNat : Int) == 76)), .bool (decide (3 < 0) && ((c13.toNat : Int) == 86)), .bool (decide (4 < 0) && ((c14.toNat : Int) == 66)), .bool ((c16.toNat : Int) == 77)] 155)).drew w.heap.size 64 #[.int .u16 0, .int .u8 0, .bool false, .bool false, .bool false, .bool false, .bool false, .bool false, .bool false] := ((Blk.new w _ _).alloc _).drew
        have hb1 : Blk ((w.alloc (.cells #[.int .u16 0, .int .u8 0, .bool false, .bool false, .bool false, .bool false, .bool false, .bool false, .bool false] 64)).alloc (.cells #[.bool ((c8.toNat : Int) == 82), .bool (decide (0 < 0) && ((c10.toNat : Int) == 65)), .bool (decide (1 < 0) && ((c11.toNat : Int) == 83)), .bool (decide (2 < 0) && ((c12.toNat : Int) == 76)), .bool (decide (3 < 0) && ((c13.toNat : Int) == 86)), .bool (decide (4 < 0) && ((c14.toNat : Int) == 66)), .bool ((c16.toNat : Int) == 77)] 155)).drew (w.heap.size + 1) 155 #[.bool ((c8.toNat : Int) == 82), .bool (decide (0 < 0) && ((c10.toNat : Int) == 65)), .bool (decide (1 < 0) && ((c11.toNat : Int) == 83)), .bool (decide (2 < 0) && ((c12.toNat : Int) == 76)), .bool (decide (3 < 0) && ((c13.toNat : Int) == 86)), .bool (decide (4 < 0) && ((c14.toNat : Int) == 66)), .bool ((c16.toNat : Int) == 77)] := by
          have h := (Blk.new (w.alloc (.cells #[.int .u16 0, .int .u8 0, .bool false, .bool false, .bool false, .bool false, .bool false, .bool false, .bool false] 64)) 155 #[.bool ((c8.toNat : Int) == 82), .bool (decide (0 < 0) && ((c10.toNat : Int) == 65)), .bool (decide (1 < 0) && ((c11.toNat : Int) == 83)), .bool (decide (2 < 0) && ((c12.toNat : Int) == 76)), .bool (decide (3 < 0) && ((c13.toNat : Int) == 86)), .bool (decide (4 < 0) && ((c14.toNat : Int) == 66)), .bool ((c16.toNat : Int) == 77)]).drew
          simpa using h
        have hbl : Below w.heap.size w ((w.alloc (.cells #[.int .u16 0, .int .u8 0, .bool false, .bool false, .bool false, .bool false, .bool false, .bool false, .bool false] 64)).alloc (.cells #[.bool ((c8.toNat : Int) == 82), .bool (decide (0 < 0) && ((c10.toNat : Int) == 65)), .bool (decide (1 < 0) && ((c11.toNat : Int) == 83)), .bool (decide (2 < 0) && ((c12.toNat : Int) == 76)), .bool (decide (3 < 0) && ((c13.toNat : Int) == 86)), .bool (decide (4 < 0) && ((c14.toNat : Int) == 66)), .bool ((c16.toNat : Int) == 77)] 155)).drew := below_drewN (below_alloc (below_alloc (Below.refl _ _) _) _) 1
        go_loopw [41] (fun i wr => ∃ k : Nat, k ≤ 5 ∧ i = .int .i64 k ∧ Blk wr w.heap.size 64 #[.int .u16 0, .int .u8 0, .bool false, .bool false, .bool false, .bool false, .bool false, .bool false, .bool false] ∧ Blk wr (w.heap.size + 1) 155 #[.bool ((c8.toNat : Int) == 82), .bool (decide (0 < k) && ((c10.toNat : Int) == 65)), .bool (decide (1 < k) && ((c11.toNat : Int) == 83)), .bool (decide (2 < k) && ((c12.toNat : Int) == 76)), .bool (decide (3 < k) && ((c13.toNat : Int) == 86)), .bool (decide (4 < k) && ((c14.toNat : Int) == 66)), .bool ((c16.toNat : Int) == 77)] ∧ Below w.heap.size w wr) (fun i _ => 5 - (intOf i).toNat)
        case atStart => exact ⟨0, by omega, rfl, hb0, hb1, hbl⟩
        case round =>
          clear hb0 hb1 hbl
          obtain ⟨k, hk, rfl, hb0, hb1, hbl⟩ := hrel
          by_cases h5 : k < 5
          · have five : k = 0 ∨ k = 1 ∨ k = 2 ∨ k = 3 ∨ k = 4 := by omega
            rcases five with rfl | rfl | rfl | rfl | rfl
            · have hc := hb1.cell 1
              have hf := hb1.frozen 1
              go_wp2
              go_region
              go_wp2
              go_roundw
              case rel => exact ⟨1, by omega, rfl, (hb0.far (by simp) _).drew, (hb1.set_ 1 _).drew, below_drewN (hbl.setCell (by simp) _) 1⟩
              case measure => simp [intOf]
            · have hc := hb1.cell 2
              have hf := hb1.frozen 2
              go_wp2
              go_region
              go_wp2
              go_roundw
              case rel => exact ⟨2, by omega, rfl, (hb0.far (by simp) _).drew, (hb1.set_ 2 _).drew, below_drewN (hbl.setCell (by simp) _) 1⟩
              case measure => simp [intOf]
            · have hc := hb1.cell 3
              have hf := hb1.frozen 3
              go_wp2
              go_region
              go_wp2
              go_roundw
              case rel => exact ⟨3, by omega, rfl, (hb0.far (by simp) _).drew, (hb1.set_ 3 _).drew, below_drewN (hbl.setCell (by simp) _) 1⟩
              case measure => simp [intOf]
            · have hc := hb1.cell 4
              have hf := hb1.frozen 4
              go_wp2
              go_region
              go_wp2
              go_roundw
              case rel => exact ⟨4, by omega, rfl, (hb0.far (by simp) _).drew, (hb1.set_ 4 _).drew, below_drewN (hbl.setCell (by simp) _) 1⟩
              case measure => simp [intOf]
            · have hc := hb1.cell 5
              have hf := hb1.frozen 5
              go_wp2
              go_region
              go_wp2
              go_roundw
              case rel => exact ⟨5, by omega, rfl, (hb0.far (by simp) _).drew, (hb1.set_ 5 _).drew, below_drewN (hbl.setCell (by simp) _) 1⟩
              case measure => simp [intOf]
          · obtain rfl : k = 5 := by omega
            replace hb1 : Blk wr (w.heap.size + 1) 155 #[.bool ((c8.toNat : Int) == 82), .bool ((c10.toNat : Int) == 65), .bool ((c11.toNat : Int) == 83), .bool ((c12.toNat : Int) == 76), .bool ((c13.toNat : Int) == 86), .bool ((c14.toNat : Int) == 66), .bool ((c16.toNat : Int) == 77)] := hb1
            have hn1 := readS_small _ n1 4 HR1.out rfl (by omega)
            have hn2 := readS_small _ n2 2 HR2.out rfl (by omega)
            have hw1 : IntKind.u16.wrap (n1 : Int) = n1 := by rw [IntKind.wrap_u16]; omega
            have hw2 : IntKind.u8.wrap (n2 : Int) = n2 := by rw [IntKind.wrap_u8]; omega
            obtain ⟨F0, hF0⟩ : ∃ F, F = ((c8.toNat : Int) == 82) := ⟨_, rfl⟩
            obtain ⟨F1, hF1⟩ : ∃ F, F = ((c10.toNat : Int) == 65) := ⟨_, rfl⟩
            obtain ⟨F2, hF2⟩ : ∃ F, F = ((c11.toNat : Int) == 83) := ⟨_, rfl⟩
            obtain ⟨F3, hF3⟩ : ∃ F, F = ((c12.toNat : Int) == 76) := ⟨_, rfl⟩
            obtain ⟨F4, hF4⟩ : ∃ F, F = ((c13.toNat : Int) == 86) := ⟨_, rfl⟩
            obtain ⟨F5, hF5⟩ : ∃ F, F = ((c14.toNat : Int) == 66) := ⟨_, rfl⟩
            obtain ⟨F6, hF6⟩ : ∃ F, F = ((c16.toNat : Int) == 77) := ⟨_, rfl⟩
            rw [← hF0, ← hF1, ← hF2, ← hF3, ← hF4, ← hF5, ← hF6] at hb1
            have HT : Hid (∀ W : World, Calls Try.prog 96 #[.agg #[.int .u16 n1, .int .u8 n2, .bool F0, .bool F1, .bool F2, .bool F3, .bool F4, .bool F5, .bool F6]] W fun e w' => e = .returned (.string ⟨(recL n1 n2 F0 F1 F2 F3 F4 F5 F6).toArray⟩) ∧ Below W.heap.size W w') := fun W => RText_any n1 n2 F0 F1 F2 F3 F4 F5 F6 W hn1 hn2
            have hse : (recL n1 n2 F0 F1 F2 F3 F4 F5 F6 == [c0, c1, c2, c3, c4, c5, c6, c7, c8, c9, c10, c11, c12, c13, c14, c15, c16]) = decide (recL n1 n2 F0 F1 F2 F3 F4 F5 F6 = [c0, c1, c2, c3, c4, c5, c6, c7, c8, c9, c10, c11, c12, c13, c14, c15, c16]) := beq_dec _ _
            have HN : Hid (recL n1 n2 F0 F1 F2 F3 F4 F5 F6 ≠ [c0, c1, c2, c3, c4, c5, c6, c7, c8, c9, c10, c11, c12, c13, c14, c15, c16] → ∀ (a d : Nat) (b0 b1 b2 b3 b4 b5 b6 : Bool), a < 65536 → d < 256 → recL a d b0 b1 b2 b3 b4 b5 b6 ≠ [c0, c1, c2, c3, c4, c5, c6, c7, c8, c9, c10, c11, c12, c13, c14, c15, c16]) := fun hne a d b0 b1 b2 b3 b4 b5 b6 ha hd he => hne (recL_read _ _ _ _ _ _ _ _ _ _ _ _ _ _ _ _ _ a d b0 b1 b2 b3 b4 b5 b6 ha hd he n1 n2 HR1.out HR2.out F0 F1 F2 F3 F4 F5 F6 hF0 hF1 hF2 hF3 hF4 hF5 hF6)
            have HB : Hid (n1 < 65536 ∧ n2 < 256) := ⟨hn1, hn2⟩
            clear hn1 hn2
            have hlt := hb1.lt
            have HF := Lib.hid (And.intro hF0 (And.intro hF1 (And.intro hF2 (And.intro hF3 (And.intro hF4 (And.intro hF5 hF6))))))
            clear hF0 hF1 hF2 hF3 hF4 hF5 hF6 HR1 HR2 H1 H2 e04 e57
            by_cases hm : recL n1 n2 F0 F1 F2 F3 F4 F5 F6 = [c0, c1, c2, c3, c4, c5, c6, c7, c8, c9, c10, c11, c12, c13, c14, c15, c16]
            · have HM := Lib.hid hm
              rw [decide_eq_true hm] at hse
              clear hm
              generalize hRR : recL n1 n2 F0 F1 F2 F3 F4 F5 F6 = R at *
              have HRR := Lib.hid hRR
              clear hRR
              go_wp2_with (first | (refine wpList_load_row rfl 155 (.tmp 8) rfl (w.heap.size + 1) rfl 155 _ (0, 0) _ hb1 Try.underlying155 rfl (by kernel_rfl) ?_) | fail)
              refine (with_any _ _ _ _ _ _ _ _ _ _ _ _ _ _ _ _ _).mono ?_
              rintro e w3 ⟨rfl, hb3⟩
              replace hbl := below_then hbl hb3
              replace hb0 := hb0.below hb3 hb0.lt
              have hz0 := hb0.lt
              clear hb3 hb1 hlt
              go_wp2_with (first | (refine wpList_load_row rfl 64 (.tmp 10) rfl w3.heap.size rfl 64 _ (0, 0) _ (Blk.new w3 _ #[.int .u16 n1, .int .u8 n2, .bool F0, .bool F1, .bool F2, .bool F3, .bool F4, .bool F5, .bool F6]) Try.underlying64 rfl (by kernel_rfl) ?_) | fail)
              refine (HT.out _).mono ?_
              rintro e w4 ⟨rfl, hb4⟩
              replace hbl := below_then (below_alloc hbl _) hb4
              replace hb0 := (hb0.alloc _).below hb4 (by simp; omega)
              have hb9 := (Blk.new w3 64 #[.int .u16 n1, .int .u8 n2, .bool F0, .bool F1, .bool F2, .bool F3, .bool F4, .bool F5, .bool F6]).below hb4 (by simp)
              clear hb4
              go_wp2_with (first | (refine wpList_load_row rfl 64 (.tmp 10) rfl w3.heap.size rfl 64 _ (0, 0) _ hb9 Try.underlying64 rfl (by kernel_rfl) ?_) | (refine wpList_store_row rfl 64 (.tmp 2) (.tmp 67) rfl w.heap.size #[.int .u16 n1, .int .u8 n2, .bool F0, .bool F1, .bool F2, .bool F3, .bool F4, .bool F5, .bool F6] rfl rfl 64 #[.int .u16 0, .int .u8 0, .bool false, .bool false, .bool false, .bool false, .bool false, .bool false, .bool false] hb0 (by kernel_rfl) rfl (by simp [Value.oneCell']) ?_))
              have hR := setRow_heap w4 w.heap.size _ #[.int .u16 n1, .int .u8 n2, .bool F0, .bool F1, .bool F2, .bool F3, .bool F4, .bool F5, .bool F6] _ _ hb0
              refine bodyPost_ret (by refine (results_cell_tmp (p := 2) (q := 3) (ty := 64) ?_ _ _ w.heap.size 64 #[.int .u16 n1, .int .u8 n2, .bool F0, .bool F1, .bool F2, .bool F3, .bool F4, .bool F5, .bool F6] (0, 0) _ ?_ hR Try.underlying64 rfl (by kernel_rfl)).trans ?_ <;> rfl) rfl ⟨?_, .inl ⟨n1, n2, F0, F1, F2, F3, F4, F5, F6, HB.out.1, HB.out.2, HRR.out.trans HM.out, rfl⟩⟩
              exact hbl.trans ⟨rfl, rfl, rfl, by simp [World.setRow], fun k hk => setRow_other _ _ k _ (by omega)⟩
            · have HM := Lib.hid hm
              rw [decide_eq_false hm] at hse
              clear hm
              generalize hRR : recL n1 n2 F0 F1 F2 F3 F4 F5 F6 = R at *
              have HRR := Lib.hid hRR
              clear hRR
              go_wp2_with (first | (refine wpList_load_row rfl 155 (.tmp 8) rfl (w.heap.size + 1) rfl 155 _ (0, 0) _ hb1 Try.underlying155 rfl (by kernel_rfl) ?_) | fail)
              refine (with_any _ _ _ _ _ _ _ _ _ _ _ _ _ _ _ _ _).mono ?_
              rintro e w3 ⟨rfl, hb3⟩
              replace hbl := below_then hbl hb3
              replace hb0 := hb0.below hb3 hb0.lt
              have hz0 := hb0.lt
              clear hb3 hb1 hlt
              go_wp2_with (first | (refine wpList_load_row rfl 64 (.tmp 10) rfl w3.heap.size rfl 64 _ (0, 0) _ (Blk.new w3 _ #[.int .u16 n1, .int .u8 n2, .bool F0, .bool F1, .bool F2, .bool F3, .bool F4, .bool F5, .bool F6]) Try.underlying64 rfl (by kernel_rfl) ?_) | fail)
              refine (HT.out _).mono ?_
              rintro e w4 ⟨rfl, hb4⟩
              replace hbl := below_then (below_alloc hbl _) hb4
              replace hb0 := (hb0.alloc _).below hb4 (by simp; omega)
              have hb9 := (Blk.new w3 64 #[.int .u16 n1, .int .u8 n2, .bool F0, .bool F1, .bool F2, .bool F3, .bool F4, .bool F5, .bool F6]).below hb4 (by simp)
              clear hb4
              go_wp2_with (first | (refine wpList_store_row rfl 64 (.tmp 2) (.tmp 66) rfl w.heap.size #[.int .u16 0, .int .u8 0, .bool false, .bool false, .bool false, .bool false, .bool false, .bool false, .bool false] rfl rfl 64 #[.int .u16 0, .int .u8 0, .bool false, .bool false, .bool false, .bool false, .bool false, .bool false, .bool false] hb0 (by kernel_rfl) rfl (by simp [Value.oneCell']) ?_))
              have hR := setRow_heap w4 w.heap.size _ #[.int .u16 0, .int .u8 0, .bool false, .bool false, .bool false, .bool false, .bool false, .bool false, .bool false] _ _ hb0
              refine bodyPost_ret (by refine (results_cell_tmp (p := 2) (q := 3) (ty := 64) ?_ _ _ w.heap.size 64 #[.int .u16 0, .int .u8 0, .bool false, .bool false, .bool false, .bool false, .bool false, .bool false, .bool false] (0, 0) _ ?_ hR Try.underlying64 rfl (by kernel_rfl)).trans ?_ <;> rfl) rfl ⟨?_, .inr ⟨HN.out HM.out, rfl⟩⟩
              exact hbl.trans ⟨rfl, rfl, rfl, by simp [World.setRow], fun k hk => setRow_other _ _ k _ (by omega)⟩
      · have HNO : Hid (∀ (a d : Nat) (b0 b1 b2 b3 b4 b5 b6 : Bool), a < 65536 → d < 256 → recL a d b0 b1 b2 b3 b4 b5 b6 ≠ [c0, c1, c2, c3, c4, c5, c6, c7, c8, c9, c10, c11, c12, c13, c14, c15, c16]) := fun a d b0 b1 b2 b3 b4 b5 b6 ha hd he => he2 (recL_err _ _ _ _ _ _ _ _ _ _ _ _ _ _ _ _ _ a d b0 b1 b2 b3 b4 b5 b6 ha hd he n1 0 n2 e2 HR1.out HR2.out).2
        have heb : (((e2 : Nat) : Int) == 0) = false := by rw [beq_eq_false_iff_ne]; omega
        clear he2 HR1 HR2
        go_enter Try.func81, Try.ntmps81
        go_wp2_with (first | (go_at_call 57; first | (with_reducible refine (H1.out _).mono ?_; rintro e w' ⟨rfl, rfl⟩) | (with_reducible refine (H2.out _).mono ?_; rintro e w' ⟨rfl, rfl⟩)) | (refine wpList_store_row rfl 64 (.tmp 2) (.tmp 33) rfl w.heap.size #[.int .u16 0, .int .u8 0, .bool false, .bool false, .bool false, .bool false, .bool false, .bool false, .bool false] rfl rfl 64 #[.int .u16 0, .int .u8 0, .bool false, .bool false, .bool false, .bool false, .bool false, .bool false, .bool false] (heap_alloc_new w _) (by kernel_rfl) rfl (by simp [Value.oneCell']) ?_))
        have hR := setRow_heap (w.alloc (.cells #[.int .u16 0, .int .u8 0, .bool false, .bool false, .bool false, .bool false, .bool false, .bool false, .bool false] 64)) w.heap.size _ #[.int .u16 0, .int .u8 0, .bool false, .bool false, .bool false, .bool false, .bool false, .bool false, .bool false] _ _ (heap_alloc_new w _)
        refine bodyPost_ret (by refine (results_cell_tmp (p := 2) (q := 3) (ty := 64) ?_ _ _ w.heap.size 64 #[.int .u16 0, .int .u8 0, .bool false, .bool false, .bool false, .bool false, .bool false, .bool false, .bool false] (0, 0) _ ?_ hR Try.underlying64 rfl (by kernel_rfl)).trans ?_ <;> rfl) rfl ⟨?_, .inr ⟨HNO.out, rfl⟩⟩
        exact (below_alloc (Below.refl _ _) _).trans ⟨rfl, rfl, rfl, by simp [World.setRow], fun k hk => setRow_other _ _ k _ (by omega)⟩
    · have HNO : Hid (∀ (a d : Nat) (b0 b1 b2 b3 b4 b5 b6 : Bool), a < 65536 → d < 256 → recL a d b0 b1 b2 b3 b4 b5 b6 ≠ [c0, c1, c2, c3, c4, c5, c6, c7, c8, c9, c10, c11, c12, c13, c14, c15, c16]) := fun a d b0 b1 b2 b3 b4 b5 b6 ha hd he => he1 (recL_err _ _ _ _ _ _ _ _ _ _ _ _ _ _ _ _ _ a d b0 b1 b2 b3 b4 b5 b6 ha hd he n1 e1 n2 e2 HR1.out HR2.out).1
      have heb : (((e1 : Nat) : Int) == 0) = false := by rw [beq_eq_false_iff_ne]; omega
      clear he1 HR1 HR2
      go_enter Try.func81, Try.ntmps81
      go_wp2_with (first | (go_at_call 57; first | (with_reducible refine (H1.out _).mono ?_; rintro e w' ⟨rfl, rfl⟩) | (with_reducible refine (H2.out _).mono ?_; rintro e w' ⟨rfl, rfl⟩)) | (refine wpList_store_row rfl 64 (.tmp 2) (.tmp 33) rfl w.heap.size #[.int .u16 0, .int .u8 0, .bool false, .bool false, .bool false, .bool false, .bool false, .bool false, .bool false] rfl rfl 64 #[.int .u16 0, .int .u8 0, .bool false, .bool false, .bool false, .bool false, .bool false, .bool false, .bool false] (heap_alloc_new w _) (by kernel_rfl) rfl (by simp [Value.oneCell']) ?_))
      have hR := setRow_heap (w.alloc (.cells #[.int .u16 0, .int .u8 0, .bool false, .bool false, .bool false, .bool false, .bool false, .bool false, .bool false] 64)) w.heap.size _ #[.int .u16 0, .int .u8 0, .bool false, .bool false, .bool false, .bool false, .bool false, .bool false, .bool false] _ _ (heap_alloc_new w _)
      refine bodyPost_ret (by refine (results_cell_tmp (p := 2) (q := 3) (ty := 64) ?_ _ _ w.heap.size 64 #[.int .u16 0, .int .u8 0, .bool false, .bool false, .bool false, .bool false, .bool false, .bool false, .bool false] (0, 0) _ ?_ hR Try.underlying64 rfl (by kernel_rfl)).trans ?_ <;> rfl) rfl ⟨?_, .inr ⟨HNO.out, rfl⟩⟩
      exact (below_alloc (Below.refl _ _) _).trans ⟨rfl, rfl, rfl, by simp [World.setRow], fun k hk => setRow_other _ _ k _ (by omega)⟩
  · have hno : ∀ (a d : Nat) (b0 b1 b2 b3 b4 b5 b6 : Bool), a < 65536 → d < 256 → recL a d b0 b1 b2 b3 b4 b5 b6 ≠ l := fun a d b0 b1 b2 b3 b4 b5 b6 _ _ e => h17 (by rw [← e]; rfl)
    have h17' : ((l.length : Int) == 17) = false := by rw [beq_eq_false_iff_ne]; omega
    have HNO := Lib.hid hno
    clear hno h17
    go_enter Try.func81, Try.ntmps81
    go_wp2_with (refine wpList_store_row rfl 64 (.tmp 2) (.tmp 14) rfl w.heap.size #[.int .u16 0, .int .u8 0, .bool false, .bool false, .bool false, .bool false, .bool false, .bool false, .bool false] rfl rfl 64 #[.int .u16 0, .int .u8 0, .bool false, .bool false, .bool false, .bool false, .bool false, .bool false, .bool false] (heap_alloc_new w _) (by kernel_rfl) rfl (by simp [Value.oneCell']) ?_)
    have hR := setRow_heap (w.alloc (.cells #[.int .u16 0, .int .u8 0, .bool false, .bool false, .bool false, .bool false, .bool false, .bool false, .bool false] 64)) w.heap.size _ #[.int .u16 0, .int .u8 0, .bool false, .bool false, .bool false, .bool false, .bool false, .bool false, .bool false] _ _ (heap_alloc_new w _)
    refine bodyPost_ret (by refine (results_cell_tmp (p := 2) (q := 3) (ty := 64) ?_ _ _ w.heap.size 64 #[.int .u16 0, .int .u8 0, .bool false, .bool false, .bool false, .bool false, .bool false, .bool false, .bool false] (0, 0) _ ?_ hR Try.underlying64 rfl (by kernel_rfl)).trans ?_ <;> rfl) rfl ⟨?_, .inr ⟨HNO.out, rfl⟩⟩
    exact (below_alloc (Below.refl _ _) _).trans ⟨rfl, rfl, rfl, by simp [World.setRow], fun k hk => setRow_other _ _ k _ (by omega)⟩
end Go.Proofs.Ytgebopmiefgdoaa

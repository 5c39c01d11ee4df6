/-
  Contract of record.Text.
-/
import Derived.Test.YtgebopmiefgdoaaRecText
namespace Go.Proofs.Ytgebopmiefgdoaa
open Go.RowKit
set_option maxRecDepth 100000 in
set_option maxHeartbeats 4000000 in
theorem RText_any (a d : Nat) (b0 b1 b2 b3 b4 b5 b6 : Bool) (w : World) (ha : a < 65536) (hd : d < 256) :
    Calls Try.prog 96 #[.agg #[.int .u16 a, .int .u8 d, .bool b0, .bool b1, .bool b2, .bool b3, .bool b4, .bool b5, .bool b6]] w fun e w' => e = .returned (.string ⟨(recL a d b0 b1 b2 b3 b4 b5 b6).toArray⟩) ∧ Below w.heap.size w w' := by
  have HX : Hid (∀ W : World, Calls Try.prog 74 #[.int .u64 a, .int .i64 4] W fun e w' => e = .returned (.string ⟨#[dig (a / 16 ^ 3 % 16), dig (a / 16 ^ 2 % 16), dig (a / 16 ^ 1 % 16), dig (a / 16 ^ 0 % 16)]⟩) ∧ Below W.heap.size W w') := fun W => Hex4_any a W ha
  have HP : Hid (∀ (g : Nat) (W : World), W.cell? ⟨g, 0, none⟩ = some (.int .u8 (d : Int)) → g < W.heap.size → Calls Try.prog 32 #[.slice (some ⟨g, 0, none⟩) 1 1] W fun e w' => e = .returned (.string ⟨#[dig (d / 16), dig (d % 16)]⟩) ∧ Below W.heap.size W w') := fun g W hc hg => Pair1_any d g W hd hc hg
  have hwr : IntKind.u64.wrap (a : Int) = a := by rw [IntKind.wrap_u64]; omega
  have hstr : ∀ x0 x1 x2 x3 y0 y1 : UInt8, ByteArray.mk #[x0, x1, x2, x3] ++ ByteArray.mk #[32] ++ ByteArray.mk #[y0, y1] ++ ByteArray.mk #[32, 87, 32, 45, 45, 45, 45, 45, 32, 45] = ⟨#[x0, x1, x2, x3, 32, y0, y1, 32, 87, 32, 45, 45, 45, 45, 45, 32, 45]⟩ := fun x0 x1 x2 x3 y0 y1 => by
    apply ByteArray.ext
    simp
  unfold recL
  generalize dig (a / 16 ^ 3 % 16) = x0 at *
  generalize dig (a / 16 ^ 2 % 16) = x1 at *
  generalize dig (a / 16 ^ 1 % 16) = x2 at *
  generalize dig (a / 16 ^ 0 % 16) = x3 at *
  generalize dig (d / 16) = y0 at *
  generalize dig (d % 16) = y1 at *
  obtain ⟨C, V, hcv⟩ : ∃ (C : World → Nat) (V : World → World), ∀ W, (convert 9 37 (.string ⟨#[x0, x1, x2, x3, 32, y0, y1, 32, 87, 32, 45, 45, 45, 45, 45, 32, 45]⟩)).run Try.prog W = .ok (.slice (some ⟨W.heap.size, 0, none⟩) 17 (C W)) (V W) ∧ BytesAt (V W) W.heap.size [x0, x1, x2, x3, 32, y0, y1, 32, 87, 32, 45, 45, 45, 45, 45, 32, 45] ∧ Below W.heap.size W (V W) := by
    refine ⟨fun W => Classical.choose (run_to_bytes (P := Try.prog) W 9 37 5 Try.underlying9 Try.underlying37 Try.underlying5 [x0, x1, x2, x3, 32, y0, y1, 32, 87, 32, 45, 45, 45, 45, 45, 32, 45]), fun W => Classical.choose (Classical.choose_spec (run_to_bytes (P := Try.prog) W 9 37 5 Try.underlying9 Try.underlying37 Try.underlying5 [x0, x1, x2, x3, 32, y0, y1, 32, 87, 32, 45, 45, 45, 45, 45, 32, 45])), fun W => ?_⟩
    exact Classical.choose_spec (Classical.choose_spec (run_to_bytes (P := Try.prog) W 9 37 5 Try.underlying9 Try.underlying37 Try.underlying5 [x0, x1, x2, x3, 32, y0, y1, 32, 87, 32, 45, 45, 45, 45, 45, 32, 45]))
  have hcv1 := fun W => (hcv W).1
  have HCV := Lib.hid (fun W => (hcv W).2)
  clear hcv
  go_enter Try.func96, Try.ntmps96
  go_wp2
  go_region_with (first | (go_at_call 74; with_reducible refine (HX.out _).mono ?_; rintro e w1 ⟨rfl, hb1⟩; have q10 := hb1.cell (p := ⟨w.heap.size, 0, none⟩) (by first | (simp; done) | (simp; omega)); have q11 := hb1.cell (p := ⟨w.heap.size, 1, none⟩) (by first | (simp; done) | (simp; omega)); have q12 := fun g h => hb1.cell (p := ⟨g, 0, none⟩) h; have z1 := hb1.size) | (go_at_call 32; with_reducible refine (HP.out _ _ (by first | (simp; done) | exact (q12 _ (by simp)).trans (by simp)) (by first | (simp; done) | (simp at *; omega))).mono ?_; rintro e w2 ⟨rfl, hb2⟩; have q20 := hb2.cell (p := ⟨w.heap.size, 0, none⟩) (by first | (simp; done) | (simp at *; omega)); have q21 := hb2.cell (p := ⟨w.heap.size, 1, none⟩) (by first | (simp; done) | (simp at *; omega)); have z2 := hb2.size))
  all_goals
    have hB : Blk (V w2) w.heap.size 64 #[.int .u16 a, .int .u8 d, .bool b0, .bool b1, .bool b2, .bool b3, .bool b4, .bool b5, .bool b6] := by
      refine Blk.below ?_ (HCV.out _).2 (by first | omega | (simp at *; done) | (simp at *; omega))
      refine Blk.below ?_ hb2 (by first | omega | (simp at *; done) | (simp at *; omega))
      first
        | exact Blk.below ((Blk.new w _ _).alloc _).drew hb1 (by first | omega | (simp at *; done) | (simp at *; omega))
        | exact (Blk.below (Blk.new w _ _).drew hb1 (by first | omega | (simp at *; done) | (simp at *; omega))).alloc _
    have hbl : Below w.heap.size w (V w2) := by
      refine below_then ?_ (HCV.out _).2
      repeat (first | exact Below.refl _ _ | apply below_alloc | apply below_drewN | (refine below_then ?_ (by assumption)))
    have hat := (HCV.out w2).1
    have hgt : w.heap.size < w2.heap.size := by first | omega | (simp at *; done) | (simp at *; omega)
    have hlt : w2.heap.size < (V w2).heap.size := hat.lt
    clear q20 q21 z2 hb2 q10 q11 q12 z1 hb1 hcv1 HCV HP HX hstr hwr
    generalize w2.heap.size = g at *
    generalize C w2 = C2 at *
    generalize V w2 = W2 at *
    try generalize (some ⟨w1.heap.size, 0, none⟩ : Option Addr) = A1 at *
    clear w2 w1 C V
    go_wp2_with (first | (refine wpList_load_row rfl 64 (.tmp 1) rfl w.heap.size rfl 64 #[.int .u16 a, .int .u8 d, .bool b0, .bool b1, .bool b2, .bool b3, .bool b4, .bool b5, .bool b6] (0, 0) _ hB Try.underlying64 rfl (by kernel_rfl) ?_) | (go_at_call 121; with_reducible refine (lines_any _ _ _ _ _ _ _ _ _ _).mono ?_; rintro e w3 ⟨rfl, hb3⟩))
    have hat := hat.below hb3
    have hbl := below_then hbl hb3
    clear hb3 hB hlt
    go_loopw [20] (fun i wr => ∃ k : Nat, k ≤ 7 ∧ i = .int .i64 k ∧ BytesAt wr g (txt x0 x1 x2 x3 y0 y1 (decide (0 < k) && b0) (decide (1 < k) && b1) (decide (2 < k) && b2) (decide (3 < k) && b3) (decide (4 < k) && b4) (decide (5 < k) && b5) (decide (6 < k) && b6)) ∧ Below w.heap.size w wr) (fun i _ => 7 - (intOf i).toNat)
    case atStart => exact ⟨0, by omega, rfl, hat, hbl⟩
    case round =>
      clear hat hbl
      obtain ⟨k, hk, rfl, hat, hbl⟩ := hrel
      by_cases h7 : k < 7
      · have seven : k = 0 ∨ k = 1 ∨ k = 2 ∨ k = 3 ∨ k = 4 ∨ k = 5 ∨ k = 6 := by omega
        rcases seven with rfl | rfl | rfl | rfl | rfl | rfl | rfl
        · have hc := hat.cell 8 _ rfl
          have hf := hat.frozen 8 (by simp [txt])
          have hix : ∀ W : World, (Instr.index 155 (.agg #[.bool b0, .bool b1, .bool b2, .bool b3, .bool b4, .bool b5, .bool b6]) (.int .i64 0)).run Try.prog W = .ok (.bool b0) W := fun W => by kernel_rfl
          cases b0
          · go_wp2
            go_roundw
            case rel => exact ⟨1, by omega, rfl, hat, hbl⟩
            case measure => simp [intOf]
          · go_wp2
            go_roundw
            case rel => exact ⟨1, by omega, rfl, hat.set_ 8 (by simp [txt]) 82, hbl.setCell (Nat.le_of_lt hgt) _⟩
            case measure => simp [intOf]
        · have hc := hat.cell 10 _ rfl
          have hf := hat.frozen 10 (by simp [txt])
          have hix : ∀ W : World, (Instr.index 155 (.agg #[.bool b0, .bool b1, .bool b2, .bool b3, .bool b4, .bool b5, .bool b6]) (.int .i64 1)).run Try.prog W = .ok (.bool b1) W := fun W => by kernel_rfl
          cases b1
          · go_wp2
            go_roundw
            case rel => exact ⟨2, by omega, rfl, hat, hbl⟩
            case measure => simp [intOf]
          · go_wp2
            go_roundw
            case rel => exact ⟨2, by omega, rfl, hat.set_ 10 (by simp [txt]) 65, hbl.setCell (Nat.le_of_lt hgt) _⟩
            case measure => simp [intOf]
        · have hc := hat.cell 11 _ rfl
          have hf := hat.frozen 11 (by simp [txt])
          have hix : ∀ W : World, (Instr.index 155 (.agg #[.bool b0, .bool b1, .bool b2, .bool b3, .bool b4, .bool b5, .bool b6]) (.int .i64 2)).run Try.prog W = .ok (.bool b2) W := fun W => by kernel_rfl
          cases b2
          · go_wp2
            go_roundw
            case rel => exact ⟨3, by omega, rfl, hat, hbl⟩
            case measure => simp [intOf]
          · go_wp2
            go_roundw
            case rel => exact ⟨3, by omega, rfl, hat.set_ 11 (by simp [txt]) 83, hbl.setCell (Nat.le_of_lt hgt) _⟩
            case measure => simp [intOf]
        · have hc := hat.cell 12 _ rfl
          have hf := hat.frozen 12 (by simp [txt])
          have hix : ∀ W : World, (Instr.index 155 (.agg #[.bool b0, .bool b1, .bool b2, .bool b3, .bool b4, .bool b5, .bool b6]) (.int .i64 3)).run Try.prog W = .ok (.bool b3) W := fun W => by kernel_rfl
          cases b3
          · go_wp2
            go_roundw
            case rel => exact ⟨4, by omega, rfl, hat, hbl⟩
            case measure => simp [intOf]
          · go_wp2
            go_roundw
            case rel => exact ⟨4, by omega, rfl, hat.set_ 12 (by simp [txt]) 76, hbl.setCell (Nat.le_of_lt hgt) _⟩
            case measure => simp [intOf]
        · have hc := hat.cell 13 _ rfl
          have hf := hat.frozen 13 (by simp [txt])
          have hix : ∀ W : World, (Instr.index 155 (.agg #[.bool b0, .bool b1, .bool b2, .bool b3, .bool b4, .bool b5, .bool b6]) (.int .i64 4)).run Try.prog W = .ok (.bool b4) W := fun W => by kernel_rfl
          cases b4
          · go_wp2
            go_roundw
            case rel => exact ⟨5, by omega, rfl, hat, hbl⟩
            case measure => simp [intOf]
          · go_wp2
            go_roundw
            case rel => exact ⟨5, by omega, rfl, hat.set_ 13 (by simp [txt]) 86, hbl.setCell (Nat.le_of_lt hgt) _⟩
            case measure => simp [intOf]
        · have hc := hat.cell 14 _ rfl
          have hf := hat.frozen 14 (by simp [txt])
          have hix : ∀ W : World, (Instr.index 155 (.agg #[.bool b0, .bool b1, .bool b2, .bool b3, .bool b4, .bool b5, .bool b6]) (.int .i64 5)).run Try.prog W = .ok (.bool b5) W := fun W => by kernel_rfl
          cases b5
          · go_wp2
            go_roundw
            case rel => exact ⟨6, by omega, rfl, hat, hbl⟩
            case measure => simp [intOf]
          · go_wp2
            go_roundw
            case rel => exact ⟨6, by omega, rfl, hat.set_ 14 (by simp [txt]) 66, hbl.setCell (Nat.le_of_lt hgt) _⟩
            case measure => simp [intOf]
        · have hc := hat.cell 16 _ rfl
          have hf := hat.frozen 16 (by simp [txt])
          have hix : ∀ W : World, (Instr.index 155 (.agg #[.bool b0, .bool b1, .bool b2, .bool b3, .bool b4, .bool b5, .bool b6]) (.int .i64 6)).run Try.prog W = .ok (.bool b6) W := fun W => by kernel_rfl
          cases b6
          · go_wp2
            go_roundw
            case rel => exact ⟨7, by omega, rfl, hat, hbl⟩
            case measure => simp [intOf]
          · go_wp2
            go_roundw
            case rel => exact ⟨7, by omega, rfl, hat.set_ 16 (by simp [txt]) 77, hbl.setCell (Nat.le_of_lt hgt) _⟩
            case measure => simp [intOf]
      · obtain rfl : k = 7 := by omega
        have hr : Reads wr wr.heap.size 1 (some ⟨g, 0, none⟩) 17 ((txt x0 x1 x2 x3 y0 y1 b0 b1 b2 b3 b4 b5 b6).map fun c : UInt8 => .int .u8 (c.toNat : Int)) := by
          refine ⟨rfl, fun _ => ⟨_, rfl, hat.lt, fun j u hu => ?_⟩⟩
          rw [List.getElem?_map] at hu
          obtain ⟨c, h1, rfl⟩ := Option.map_eq_some_iff.1 hu
          rw [addr_add0]
          exact hat.cell j c h1
        have hcv := conv_bytes_str (P := Try.prog) (src := 37) (dst := 9) Try.underlying37 Try.underlying5 Try.underlying9 C2 hr
        clear hr hat
        go_wp2
        go_ret
        exact ⟨rfl, hbl⟩
end Go.Proofs.Ytgebopmiefgdoaa

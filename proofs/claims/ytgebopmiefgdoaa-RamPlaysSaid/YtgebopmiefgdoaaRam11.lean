/-
  Contract of the law's told.
-/
import Derived.Test.YtgebopmiefgdoaaRam10
import Derived.Test.YtgebopmiefgdoaaBytesEq
namespace Go.Proofs.Ytgebopmiefgdoaa
open Go.RowKit
theorem EqB_same (xs : List UInt8) (A A2 : Option Addr) (n c c2 B B2 : Nat) (w : World) (hr : Reads w B 1 A n (bytesV xs)) (hr2 : Reads w B2 1 A2 n (bytesV xs)) :
    Calls Try.prog 36 #[.slice A n c, .slice A2 n c2] w fun e w' => e = .returned (.bool true) ∧ w = w' := by
  have h := Equal_any xs xs A A2 n c n c2 B B2 w hr hr2
  rw [beq_self_eq_true] at h
  exact h
theorem partL_row (m : Nat → UInt8) (p : Nat) (hp : p < 256) : (List.range 256).map (fun j => m (256 * p + j)) = partL m (256 * p) 256 := by
  unfold partL
  apply List.map_congr_left
  intro j hj
  rw [List.mem_range] at hj
  rw [show (256 * p + j) % 65536 = 256 * p + j by omega]
theorem slice_mid (gl l h N : Nat) (h1 : l < h) (h2 : h ≤ N) (W : World) (lo hi : Int) (hlo : lo = l) (hhi : hi = h) : (Instr.slice 37 (.slice (some ⟨gl, 0, none⟩) N N) (some (.int .i64 lo)) (some (.int .i64 hi)) none).run Try.prog W = .ok (.slice (some ⟨gl, l, none⟩) (h - l) (N - l)) W := by
  subst hlo hhi
  have hu : Try.prog.underlying 37 = some (.slice (Try.prog.elem 37)) := by kernel_rfl
  have hs : (sizeOf (Try.prog.elem 37)).run Try.prog W = .ok 1 W := by kernel_rfl
  rw [run_slice_lh W 37 _ N N hu .i64 .i64 _ _ (by omega) (by omega) (by omega), hs]
  simp only [Result.andThen, sliced, Int.toNat_natCast]
  rw [if_neg (by omega)]
  simp [addr_add0]
theorem slice_page (gl p : Nat) (hp : p < 256) (W : World) : (Instr.slice 37 (.slice (some ⟨gl, 0, none⟩) 65536 65536) (some (.int .i64 (256 * (p : Int)))) (some (.int .i64 (256 * (p : Int) + 256))) none).run Try.prog W = .ok (.slice (some ⟨gl, 256 * p, none⟩) 256 (65536 - 256 * p)) W := by
  have h := slice_mid gl (256 * p) (256 * p + 256) 65536 (by omega) (by omega) W (256 * (p : Int)) (256 * (p : Int) + 256) (by omega) (by omega)
  rw [Nat.add_sub_cancel_left] at h
  exact h
set_option maxRecDepth 100000 in
set_option maxHeartbeats 8000000 in
theorem told_any {B g gl a : Nat} {m : Nat → UInt8} {rom : Int} {pb : Nat → Option Nat} {cs : Array Value} (kind At : Int) (sl : Value) (w : World) (h : RamAt B g m rom pb cs w) (hl : MemAt gl m w) (ha : a < 65536) (hA : IntKind.u16.wrap At = (a : Int)) :
    Calls Try.prog 92 #[.pointer (some ⟨g, 0, none⟩), .slice (some ⟨gl, 0, none⟩) 65536 65536, .int .i64 rom, .agg #[.int .i64 kind, .int .i64 At, sl]] w fun e w' => e = .returned (.bool true) ∧ Below w.heap.size w w' := by
  obtain ⟨i0, hi, hz0, hz1, hz2⟩ := info_parts info_u8
  have HH := Lib.hid h
  have HL := Lib.hid hl
  clear h hl
  obtain ⟨p, hp⟩ : ∃ p : Nat, (a : Int) / 256 = (p : Int) := ⟨a / 256, by omega⟩
  have hp256 : p < 256 := by omega
  have HP := Lib.hid hp
  have HA := Lib.hid hA
  clear hp
  go_enter Try.func92, Try.ntmps92
  go_wp2
  clear hA
  rw [HP.out]
  go_loopw [11, 12] (fun v i wr => ∃ k : Nat, k ≤ 5 ∧ i = .int .i64 k ∧ wr.ownsRow w.heap.size 5 1 v k (bytesV (partL m a k)) ∧ Below w.heap.size w wr) (fun _ i _ => 5 - (intOf i).toNat)
  case atStart => exact ⟨0, by omega, rfl, own_nil _ _ _ _, below_alloc (Below.refl _ _) _⟩
  case round =>
    obtain ⟨k, hk, rfl, hown, hbl⟩ := hrel
    by_cases hlt : k < 5
    · have hlt' : (k : Int) < 5 := by omega
      have hq : (a + k) % 65536 < 65536 := by omega
      have hc := (HL.out.below hbl).cell hq
      have hs := hbl.size
      have HT := Lib.hid (partL_succ m a k)
      have hw2 : ((a : Int) + (k : Int)) % 65536 = (((a + k) % 65536 : Nat) : Int) := by omega
      generalize (a + k) % 65536 = q at *
      generalize m q = x at *
      have hnew : Reads (wr.alloc (.cells #[.int .u8 (x.toNat : Int)] 5)) (wr.heap.size + 1) 1 (some ⟨wr.heap.size, 0, none⟩) 1 (bytesV [x]) := Reads.new1 wr _ _ 1 _ rfl (Nat.lt_succ_self _)
      go_wp2_with ((at_builtin; refine wpList_append_any _ rfl (.tmp 23) (.tmp 32) 37 rfl w.heap.size 5 i0 (.int .u8 0) 1 1 Try.underlying37 hi hz0 hz1 hz2 rfl (by omega) _ k (bytesV (partL m a k)) rfl (hown.alloc _) (wr.heap.size + 1) (some ⟨wr.heap.size, 0, none⟩) 1 1 (bytesV [x]) rfl hnew (bytesV_one _) (by simp only [maxLen]; omega) (by omega) (Nat.le_trans hs (by simp)) ?_; intro v1 w2 hown2 hg2 hat2))
      go_roundw
      case rel => exact ⟨k + 1, by omega, by go_num, by rw [HT.out, bytesV_append]; exact hown2, below_own (below_alloc' hbl) (hown.alloc _) hg2 (Nat.le_trans hs (by simp))⟩
      case measure => simp [intOf]; omega
    · obtain rfl : k = 5 := by omega
      obtain ⟨Ap, cp, rfl, hrp, _, _⟩ := own_reads hown
      clear hown
      have hb0 : Below w.heap.size w wr.drew := below_drewN hbl 1
      have hrp0 := hrp.below (below_drewN (Below.refl _ wr) 1)
      have hs1 : IntKind.i64.wrap (256 * (p : Int)) = 256 * (p : Int) := i64_in _ (by omega) (by omega)
      have hs2 : IntKind.i64.wrap (256 * (p : Int) + 256) = 256 * (p : Int) + 256 := i64_in _ (by omega) (by omega)
      have HRW := Lib.hid (partL_row m p hp256)
      have hsl := slice_page gl p hp256
      have hsl2 : ∀ W : World, (Instr.sliceAt 37 (.slice (some ⟨gl, 0, none⟩) 65536 65536) (some (.int .i64 (256 * (p : Int)))) (some (.int .i64 (256 * (p : Int) + 256))) none).run Try.prog W = .ok (.slice (some ⟨gl, 256 * p, none⟩) 256 (65536 - 256 * p)) W := fun W => by rw [run_sliceAt_slice W _ _ _ _ _ (by kernel_rfl)]; exact hsl W
      have ha0 : (0 : Int) ≤ (a : Int) := by omega
      have ha1 : (a : Int) < 65536 := by omega
      have hp0 : (0 : Int) ≤ (p : Int) := by omega
      have hp1 : (p : Int) < 256 := by omega
      go_wp2_with fail
      go_region_held3 (fun w' => w'.cell? ⟨gl, a, none⟩ = some (.int .u8 ((m a).toNat : Int))) (first | exact (HL.out.below (by assumption)).cell ha | (go_keep; done)) (first
        | (go_at_call 114; (with_reducible refine (Read_a a _ (HH.out.below hb0) ha).mono ?_); rintro e w1 ⟨rfl, hq1⟩; have hb1 := below_then hb0 hq1)
        | (go_at_call 118; (with_reducible refine (RRom_any _ (HH.out.below hb1)).mono ?_); rintro e w2 ⟨rfl, hq2⟩; have hb2 := below_then hb1 hq2; have hrp2 := ((hrp0.more (Nat.le_refl _)).below hq1 |>.more hq1.size).below hq2)
        | (go_at_call 95; (with_reducible refine (Part_any a 5 5 _ (HH.out.below hb2) (.inl ⟨rfl, by omega⟩)).mono ?_); rintro e w3 ⟨v3, rfl, hown3, hq3⟩; have hb3 := below_then hb2 hq3; have hrp3 := (hrp2.more hq2.size).below hq3; obtain ⟨A3, c3, rfl, hr3, _, _⟩ := own_reads hown3)
        | (go_at_call 36; (with_reducible refine (EqB_same (partL m a 5) _ _ 5 _ _ _ _ _ hr3 hrp3).mono ?_); clear hr3; rintro e w4 ⟨rfl, rfl⟩)
        | (go_at_call 117; (with_reducible refine (Page_any p _ (HH.out.below hb3) hp256).mono ?_); rintro e w5 ⟨v5, rfl, hown5, hq5⟩; have hb5 := below_then hb3 hq5; obtain ⟨A5, c5, rfl, hr5, _, _⟩ := own_reads hown5; have hrl := (HL.out.below hb5).reads (256 * p) 256 (by omega); rw [HRW.out] at hrl)
        | (go_at_call 36; (with_reducible refine (EqB_same (partL m (256 * p) 256) _ _ 256 _ _ _ _ _ hr5 hrl).mono ?_); rintro e w6 ⟨rfl, rfl⟩)
        | (go_at_call 95; (with_reducible refine (Part_any a 0 (-1) _ (HH.out.below hb5) (.inr (.inl ⟨by omega, rfl⟩))).mono ?_); rintro e w7 ⟨v7, rfl, hown7, hq7⟩; have hb7 := below_then hb5 hq7; obtain ⟨A7, c7, rfl, hr7, _, _⟩ := own_reads hown7)
        | (go_at_call 117; (with_reducible refine (Page_none g (-1) _ (.inl (by omega))).mono ?_); rintro e w8 ⟨rfl, rfl⟩)
        | (go_at_call 117; (with_reducible refine (Page_none g 256 _ (.inr (by omega))).mono ?_); rintro e w8 ⟨rfl, rfl⟩))
      all_goals
        go_wp2
        go_ret
        exact ⟨rfl, hb7⟩
end Go.Proofs.Ytgebopmiefgdoaa

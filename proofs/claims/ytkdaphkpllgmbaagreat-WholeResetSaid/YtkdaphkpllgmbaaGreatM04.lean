/-
  Contract of post.Of.
  Contract of index.Of.
-/
import Derived.Test.YtkdaphkpllgmbaaGreatM03
import Derived.Laws.Rows
import Derived.BigRegion
namespace Go.Proofs.YtkdaphkpllgmbaaGreat
open Go.RowKit Sp
set_option linter.unusedVariables false
attribute [local go_sem] Sp.Post.v Sp.Post.cells
def postF (lt : Bool) (R K : Int) (S : UInt16) (I : Bool) : Post :=
  if lt then ⟨1, 1 + R, S, false⟩ else if K = 11 ∨ K = 12 then ⟨K, 5, 0, I⟩ else if K = 13 then ⟨13, 0, 0, true⟩ else ⟨K, 1 + R, 0, I⟩
set_option maxRecDepth 100000 in
set_option maxHeartbeats 4000000 in
theorem postOf_case (x R L K : Int) (S : UInt16) (lt I : Bool) (w : World) (hR : Go.bits .and .u8 (x / 32) 3 = R) (hR0 : 0 ≤ R) (hR1 : R ≤ 3) (hL : Go.bits .and .u8 x 15 = L)
    (hI : (Go.bits .and .u8 x 16 != 0) = I) (hlt : decide (x < 128) = lt)
    (HK : Hid (∀ W : World, Calls Tryz.prog 233 #[.int .u8 L] W fun e w' => e = .returned (.int .i64 K) ∧ W = w'))
    (HS : Hid (∀ W : World, Calls Tryz.prog 232 #[.int .u8 x] W fun e w' => e = .returned (.int .u16 (S.toNat : Int)) ∧ W = w')) :
    Calls Tryz.prog 194 #[.int .u8 x] w fun e w' => e = .returned (postF lt R K S I).v ∧ Below w.heap.size w w' := by
  cases lt with
  | true =>
    as_aux_lemma =>
    go_enter Tryz.func194, Tryz.ntmps194
    go_wp2_with (go_at_call 232; with_reducible refine (HS.out _).mono ?_; rintro e w1 ⟨rfl, rfl⟩)
    exact bodyPost_ret (by exact results_cell_row rfl _ _ w.heap.size 271 _ (0, 0) _ rfl (heap_alloc_new w _) Tryz.underlying271 rfl (by kernel_rfl)) rfl ⟨rfl, below_alloc (Below.refl _ _) _⟩
  | false =>
    by_cases h11 : K = 11
    · as_aux_lemma =>
      subst h11
      go_enter Tryz.func194, Tryz.ntmps194
      go_wp2_with (go_at_call 233; with_reducible refine (HK.out _).mono ?_; rintro e w1 ⟨rfl, rfl⟩)
      exact bodyPost_ret (by exact results_cell_row rfl _ _ w.heap.size 271 _ (0, 0) _ rfl (Blk.alloc (heap_alloc_new w _) _) Tryz.underlying271 rfl (by kernel_rfl)) rfl ⟨rfl, below_alloc (below_alloc (Below.refl _ _) _) _⟩
    by_cases h12 : K = 12
    · as_aux_lemma =>
      subst h12
      clear h11
      go_enter Tryz.func194, Tryz.ntmps194
      go_wp2_with (go_at_call 233; with_reducible refine (HK.out _).mono ?_; rintro e w1 ⟨rfl, rfl⟩)
      exact bodyPost_ret (by exact results_cell_row rfl _ _ w.heap.size 271 _ (0, 0) _ rfl (Blk.alloc (heap_alloc_new w _) _) Tryz.underlying271 rfl (by kernel_rfl)) rfl ⟨rfl, below_alloc (below_alloc (Below.refl _ _) _) _⟩
    by_cases h13 : K = 13
    · as_aux_lemma =>
      subst h13
      clear h11 h12
      go_enter Tryz.func194, Tryz.ntmps194
      go_wp2_with (go_at_call 233; with_reducible refine (HK.out _).mono ?_; rintro e w1 ⟨rfl, rfl⟩)
      exact bodyPost_ret (by exact results_cell_row rfl _ _ w.heap.size 271 _ (0, 0) _ rfl (Blk.alloc (heap_alloc_new w _) _) Tryz.underlying271 rfl (by kernel_rfl)) rfl ⟨rfl, below_alloc (below_alloc (Below.refl _ _) _) _⟩
    as_aux_lemma =>
    have e11 : (K == 11) = false := beq_eq_false_iff_ne.mpr h11
    have e12 : (K == 12) = false := beq_eq_false_iff_ne.mpr h12
    have e13 : (K == 13) = false := beq_eq_false_iff_ne.mpr h13
    rw [show postF false R K S I = ⟨K, 1 + R, 0, I⟩ from by simp [postF, h11, h12, h13]]
    go_enter Tryz.func194, Tryz.ntmps194
    go_wp2_with (go_at_call 233; with_reducible refine (HK.out _).mono ?_; rintro e w1 ⟨rfl, rfl⟩)
    exact bodyPost_ret (by exact results_cell_row rfl _ _ w.heap.size 271 _ (0, 0) _ rfl (Blk.alloc (heap_alloc_new w _) _) Tryz.underlying271 rfl (by kernel_rfl)) rfl ⟨rfl, below_alloc (below_alloc (Below.refl _ _) _) _⟩
theorem postOf_t (b : UInt8) (w : World) :
    Calls Tryz.prog 194 #[.int .u8 (b.toNat : Int)] w fun e w' => e = .returned (postOf b).v ∧ Below w.heap.size w w' := by
  have hR : Go.bits .and .u8 ((b.toNat : Int) / (32 : Int)) 3 = ((b >>> 5 &&& 3).toNat : Int) := by
    rw [show (b.toNat : Int) / (32 : Int) = ((b >>> 5).toNat : Int) from by rw [UInt8.toNat_shiftRight]; simp [Nat.shiftRight_eq_div_pow]]
    exact and8 (b >>> 5) 3
  have hR1 : ((b >>> 5 &&& 3).toNat : Int) ≤ 3 := by
    have : (b >>> 5 &&& 3).toNat ≤ 3 := by rw [UInt8.toNat_and]; exact Nat.and_le_right
    omega
  have h := postOf_case (b.toNat : Int) _ (loN b) (postKind (loN b)) (sext5 b) (decide (b < 128)) (b &&& 16 != 0) w hR (by omega) hR1 (and8_15 b) (by rw [and8_16, ne0_8])
    (by rw [decide_eq_decide, UInt8.lt_iff_toNat_lt]; generalize b.toNat = n; show (n : Int) < 128 ↔ n < 128; omega)
    (Lib.hid (fun W => postKind_t _ W)) (Lib.hid (fun W => Sign5_t b W))
  have e : postOf b = postF (decide (b < 128)) ((b >>> 5 &&& 3).toNat : Int) (postKind (loN b)) (sext5 b) (b &&& 16 != 0) := by
    unfold postOf postF postReg
    by_cases h : b < 128 <;> simp [h]
  rw [e]
  exact h
end Go.Proofs.YtkdaphkpllgmbaaGreat
namespace Go.Proofs.YtkdaphkpllgmbaaGreat
open Go.RowKit Sp
set_option linter.unusedVariables false
attribute [local go_sem] Sp.Post.v Sp.Post.cells Sp.Regs.v Sp.Regs.cells
theorem results_tmp_cell {P : Program} {fn : Func} {p q : Tmp} {ty : TypeId} (h : fn.results = #[.tmp q, .cell p ty]) (tmps : Array Value) (w : World) (g : Nat) (t : TypeId) (cs : Array Value) (fr : Nat × Nat) (d : TypeDesc)
    (hp : tmps.getD p undef = .pointer (some ⟨g, 0, none⟩)) (hg : w.heap[g]? = some (.cells cs t fr))
    (hu : P.underlying ty = some d) (hd : (match d with | .struct _ | .array _ _ => true | _ => false) = true) (hi : (P.info? ty).map (·.size) = some cs.size) :
    (results fn tmps).run P w = .ok (.tuple #[tmps.getD q undef, .agg cs]) w := by
  have hp' : tmps[p]?.getD undef = .pointer (some ⟨g, 0, none⟩) := by simpa using hp
  simp [results, h, hp', asAddr, run_loadVar_row w g t ty cs fr d hg hu hd hi]
theorem plus_e (a b : UInt16) : IntKind.u16.wrap ((a.toNat : Int) + (b.toNat : Int)) = ((plusW a b).toNat : Int) := plus16 a b
theorem plus_m (a b : UInt16) : ((a.toNat : Int) + (b.toNat : Int)) % 65536 = ((plusW a b).toNat : Int) := by rw [← plus_e, wrap16]
theorem bcells {W w1 : World} (hb : Below W.heap.size W w1) : (∀ b o, b < W.heap.size → w1.cell? ⟨b, o, none⟩ = W.cell? ⟨b, o, none⟩) ∧ (∀ b o, b < W.heap.size → w1.frozen? ⟨b, o, none⟩ = W.frozen? ⟨b, o, none⟩) ∧ W.heap.size ≤ w1.heap.size :=
  ⟨fun b o h => hb.cell (p := ⟨b, o, none⟩) h, fun b o h => hb.frozen (p := ⟨b, o, none⟩) h, hb.size⟩
theorem Blk.newAt (W : World) (t : TypeId) (cs : Array Value) (g : Nat) (hg : W.heap.size = g) : Blk (W.alloc (.cells cs t)) g t cs := by subst hg; exact Blk.new W t cs
theorem LBlk9 {w : World} {g : Nat} {t : TypeId} {a b c d e f h i j : Value} (B : Blk w g t #[a, b, c, d, e, f, h, i, j]) :
    (w.cell? ⟨g, 0, none⟩ = some a ∧ w.cell? ⟨g, 1, none⟩ = some b ∧ w.cell? ⟨g, 2, none⟩ = some c ∧ w.cell? ⟨g, 3, none⟩ = some d ∧ w.cell? ⟨g, 4, none⟩ = some e ∧ w.cell? ⟨g, 5, none⟩ = some f ∧ w.cell? ⟨g, 6, none⟩ = some h ∧ w.cell? ⟨g, 7, none⟩ = some i ∧ w.cell? ⟨g, 8, none⟩ = some j) ∧
    (w.frozen? ⟨g, 0, none⟩ = false ∧ w.frozen? ⟨g, 1, none⟩ = false ∧ w.frozen? ⟨g, 2, none⟩ = false ∧ w.frozen? ⟨g, 3, none⟩ = false ∧ w.frozen? ⟨g, 4, none⟩ = false ∧ w.frozen? ⟨g, 5, none⟩ = false ∧ w.frozen? ⟨g, 6, none⟩ = false ∧ w.frozen? ⟨g, 7, none⟩ = false ∧ w.frozen? ⟨g, 8, none⟩ = false) :=
  ⟨⟨B.cell 0, B.cell 1, B.cell 2, B.cell 3, B.cell 4, B.cell 5, B.cell 6, B.cell 7, B.cell 8⟩, ⟨B.frozen 0, B.frozen 1, B.frozen 2, B.frozen 3, B.frozen 4, B.frozen 5, B.frozen 6, B.frozen 7, B.frozen 8⟩⟩
theorem Blk.set9 {w : World} {g : Nat} {t : TypeId} {x0 x1 x2 x3 x4 x5 x6 x7 x8 : Value} (B : Blk w g t #[x0, x1, x2, x3, x4, x5, x6, x7, x8]) (a b c d e f h i j : Value) :
    Blk (((((((((w.setCell ⟨g, 0, none⟩ a).setCell ⟨g, 1, none⟩ b).setCell ⟨g, 2, none⟩ c).setCell ⟨g, 3, none⟩ d).setCell ⟨g, 4, none⟩ e).setCell ⟨g, 5, none⟩ f).setCell ⟨g, 6, none⟩ h).setCell ⟨g, 7, none⟩ i).setCell ⟨g, 8, none⟩ j) g t #[a, b, c, d, e, f, h, i, j] := by
  have h0 : LBlk w g t [x0, x1, x2, x3, x4, x5, x6, x7, x8] := B
  have h1 : LBlk _ g t [a, x1, x2, x3, x4, x5, x6, x7, x8] := h0.set_ 0 a
  have h2 : LBlk _ g t [a, b, x2, x3, x4, x5, x6, x7, x8] := h1.set_ 1 b
  have h3 : LBlk _ g t [a, b, c, x3, x4, x5, x6, x7, x8] := h2.set_ 2 c
  have h4 : LBlk _ g t [a, b, c, d, x4, x5, x6, x7, x8] := h3.set_ 3 d
  have h5 : LBlk _ g t [a, b, c, d, e, x5, x6, x7, x8] := h4.set_ 4 e
  have h6 : LBlk _ g t [a, b, c, d, e, f, x6, x7, x8] := h5.set_ 5 f
  have h7 : LBlk _ g t [a, b, c, d, e, f, h, x7, x8] := h6.set_ 6 h
  have h8 : LBlk _ g t [a, b, c, d, e, f, h, i, x8] := h7.set_ 7 i
  have h9 : LBlk _ g t [a, b, c, d, e, f, h, i, j] := h8.set_ 8 j
  exact h9
theorem Below.set9 {B g : Nat} {w0 w : World} (h : Below B w0 w) (hg : B ≤ g) (a b c d e f k i j : Value) :
    Below B w0 (((((((((w.setCell ⟨g, 0, none⟩ a).setCell ⟨g, 1, none⟩ b).setCell ⟨g, 2, none⟩ c).setCell ⟨g, 3, none⟩ d).setCell ⟨g, 4, none⟩ e).setCell ⟨g, 5, none⟩ f).setCell ⟨g, 6, none⟩ k).setCell ⟨g, 7, none⟩ i).setCell ⟨g, 8, none⟩ j) :=
  (((((((((h.setCell hg _).setCell hg _).setCell hg _).setCell hg _).setCell hg _).setCell hg _).setCell hg _).setCell hg _).setCell hg _)
theorem Blk.newAt2 (W : World) (t : TypeId) (cs : Array Value) (g : Nat) (hg : W.heap.size = g) (o : Obj) : Blk ((W.alloc (.cells cs t)).alloc o) g t cs := (Blk.newAt W t cs g hg).alloc o
set_option maxRecDepth 100000 in
set_option maxHeartbeats 1000000 in
theorem indexOf_11 (rg : Int) (off : UInt16) (ind : Bool) (r : Regs) (v next : UInt16) (w : World) :
    Calls Tryz.prog 199 #[Post.v ⟨11, rg, off, ind⟩, r.v, .int .u16 (v.toNat : Int), .int .u16 (next.toNat : Int)] w fun e w' => e = .returned (.tuple #[.int .u16 ((plusW next (offset ⟨11, rg, off, ind⟩ r v)).toNat : Int), r.v]) ∧ Below w.heap.size w w' := by
  have HO := Lib.hid (fun W => offset_t ⟨11, rg, off, ind⟩ r v W)
  have pe := plus_e
  generalize offset ⟨11, rg, off, ind⟩ r v = O at *
  obtain ⟨ra, rb, rdp, rcc, rx, ry, ru, rs, rpc⟩ := r
  go_enter Tryz.func199, Tryz.ntmps199
  go_wp2_with (go_at_call 234; refine (HO.out _).mono ?_; rintro e w1 ⟨rfl, hb⟩; obtain ⟨hc, hf, hz⟩ := bcells hb)
  have B1 : Blk w1 (w.heap.size + 1) 39 _ := Blk.below (Blk.newAt2 _ _ _ (w.heap.size + 1) (by simp) _) hb (by simp)
  have B2 : Blk w1 (w.heap.size + 1 + 1) 39 _ := Blk.below (Blk.newAt _ _ _ (w.heap.size + 1 + 1) (by simp)) hb (by simp)
  have hbb : Below w.heap.size w w1 := below_then (below_alloc (below_alloc (below_alloc (Below.refl _ _) _) _) _) hb
  have F1 := LBlk9 B1
  have F2 := LBlk9 B2
  have FE := Lib.hid B2
  clear hc hf hb B1 B2
  go_region
  all_goals
    go_wp2
    have BR := Blk.drew (Blk.set9 FE.out (.int .u8 (ra.toNat : Int)) (.int .u8 (rb.toNat : Int)) (.int .u8 (rdp.toNat : Int)) (.int .u8 (rcc.toNat : Int)) (.int .u16 (rx.toNat : Int)) (.int .u16 (ry.toNat : Int)) (.int .u16 (ru.toNat : Int)) (.int .u16 (rs.toNat : Int)) (.int .u16 (rpc.toNat : Int)))
    refine bodyPost_ret (v := .tuple #[.int .u16 ((plusW next O).toNat : Int), .agg #[.int .u8 (ra.toNat : Int), .int .u8 (rb.toNat : Int), .int .u8 (rdp.toNat : Int), .int .u8 (rcc.toNat : Int), .int .u16 (rx.toNat : Int), .int .u16 (ry.toNat : Int), .int .u16 (ru.toNat : Int), .int .u16 (rs.toNat : Int), .int .u16 (rpc.toNat : Int)]]) ?_ rfl ⟨rfl, ?_⟩
    · exact (results_tmp_cell (p := 9) (q := 8) (ty := 39) rfl _ _ (w.heap.size + 1 + 1) 39 #[.int .u8 (ra.toNat : Int), .int .u8 (rb.toNat : Int), .int .u8 (rdp.toNat : Int), .int .u8 (rcc.toNat : Int), .int .u16 (rx.toNat : Int), .int .u16 (ry.toNat : Int), .int .u16 (ru.toNat : Int), .int .u16 (rs.toNat : Int), .int .u16 (rpc.toNat : Int)] (0, 0) _ rfl BR Tryz.underlying39 rfl (by kernel_rfl)).trans rfl
    · have hle : w.heap.size ≤ w.heap.size + 1 + 1 := by omega
      exact (Below.set9 hbb hle _ _ _ _ _ _ _ _ _).drew
set_option maxRecDepth 100000 in
set_option maxHeartbeats 1000000 in
theorem indexOf_12 (rg : Int) (off : UInt16) (ind : Bool) (r : Regs) (v next : UInt16) (w : World) :
    Calls Tryz.prog 199 #[Post.v ⟨12, rg, off, ind⟩, r.v, .int .u16 (v.toNat : Int), .int .u16 (next.toNat : Int)] w fun e w' => e = .returned (.tuple #[.int .u16 ((plusW next (offset ⟨12, rg, off, ind⟩ r v)).toNat : Int), r.v]) ∧ Below w.heap.size w w' := by
  have HO := Lib.hid (fun W => offset_t ⟨12, rg, off, ind⟩ r v W)
  have pe := plus_e
  generalize offset ⟨12, rg, off, ind⟩ r v = O at *
  obtain ⟨ra, rb, rdp, rcc, rx, ry, ru, rs, rpc⟩ := r
  go_enter Tryz.func199, Tryz.ntmps199
  go_wp2_with (go_at_call 234; refine (HO.out _).mono ?_; rintro e w1 ⟨rfl, hb⟩; obtain ⟨hc, hf, hz⟩ := bcells hb)
  have B1 : Blk w1 (w.heap.size + 1) 39 _ := Blk.below (Blk.newAt2 _ _ _ (w.heap.size + 1) (by simp) _) hb (by simp)
  have B2 : Blk w1 (w.heap.size + 1 + 1) 39 _ := Blk.below (Blk.newAt _ _ _ (w.heap.size + 1 + 1) (by simp)) hb (by simp)
  have hbb : Below w.heap.size w w1 := below_then (below_alloc (below_alloc (below_alloc (Below.refl _ _) _) _) _) hb
  have F1 := LBlk9 B1
  have F2 := LBlk9 B2
  have FE := Lib.hid B2
  clear hc hf hb B1 B2
  go_region
  all_goals
    go_wp2
    have BR := Blk.drew (Blk.set9 FE.out (.int .u8 (ra.toNat : Int)) (.int .u8 (rb.toNat : Int)) (.int .u8 (rdp.toNat : Int)) (.int .u8 (rcc.toNat : Int)) (.int .u16 (rx.toNat : Int)) (.int .u16 (ry.toNat : Int)) (.int .u16 (ru.toNat : Int)) (.int .u16 (rs.toNat : Int)) (.int .u16 (rpc.toNat : Int)))
    refine bodyPost_ret (v := .tuple #[.int .u16 ((plusW next O).toNat : Int), .agg #[.int .u8 (ra.toNat : Int), .int .u8 (rb.toNat : Int), .int .u8 (rdp.toNat : Int), .int .u8 (rcc.toNat : Int), .int .u16 (rx.toNat : Int), .int .u16 (ry.toNat : Int), .int .u16 (ru.toNat : Int), .int .u16 (rs.toNat : Int), .int .u16 (rpc.toNat : Int)]]) ?_ rfl ⟨rfl, ?_⟩
    · exact (results_tmp_cell (p := 9) (q := 8) (ty := 39) rfl _ _ (w.heap.size + 1 + 1) 39 #[.int .u8 (ra.toNat : Int), .int .u8 (rb.toNat : Int), .int .u8 (rdp.toNat : Int), .int .u8 (rcc.toNat : Int), .int .u16 (rx.toNat : Int), .int .u16 (ry.toNat : Int), .int .u16 (ru.toNat : Int), .int .u16 (rs.toNat : Int), .int .u16 (rpc.toNat : Int)] (0, 0) _ rfl BR Tryz.underlying39 rfl (by kernel_rfl)).trans rfl
    · have hle : w.heap.size ≤ w.heap.size + 1 + 1 := by omega
      exact (Below.set9 hbb hle _ _ _ _ _ _ _ _ _).drew
set_option maxRecDepth 100000 in
set_option maxHeartbeats 1000000 in
theorem indexOf_13 (rg : Int) (off : UInt16) (ind : Bool) (r : Regs) (v next : UInt16) (w : World) :
    Calls Tryz.prog 199 #[Post.v ⟨13, rg, off, ind⟩, r.v, .int .u16 (v.toNat : Int), .int .u16 (next.toNat : Int)] w fun e w' => e = .returned (.tuple #[.int .u16 ((offset ⟨13, rg, off, ind⟩ r v).toNat : Int), r.v]) ∧ Below w.heap.size w w' := by
  have HO := Lib.hid (fun W => offset_t ⟨13, rg, off, ind⟩ r v W)
  have pe := plus_e
  generalize offset ⟨13, rg, off, ind⟩ r v = O at *
  obtain ⟨ra, rb, rdp, rcc, rx, ry, ru, rs, rpc⟩ := r
  go_enter Tryz.func199, Tryz.ntmps199
  go_wp2_with (go_at_call 234; refine (HO.out _).mono ?_; rintro e w1 ⟨rfl, hb⟩; obtain ⟨hc, hf, hz⟩ := bcells hb)
  have B1 : Blk w1 (w.heap.size + 1) 39 _ := Blk.below (Blk.newAt2 _ _ _ (w.heap.size + 1) (by simp) _) hb (by simp)
  have B2 : Blk w1 (w.heap.size + 1 + 1) 39 _ := Blk.below (Blk.newAt _ _ _ (w.heap.size + 1 + 1) (by simp)) hb (by simp)
  have hbb : Below w.heap.size w w1 := below_then (below_alloc (below_alloc (below_alloc (Below.refl _ _) _) _) _) hb
  have F1 := LBlk9 B1
  have F2 := LBlk9 B2
  have FE := Lib.hid B2
  clear hc hf hb B1 B2
  go_region
  all_goals
    go_wp2
    have BR := Blk.drew (Blk.set9 FE.out (.int .u8 (ra.toNat : Int)) (.int .u8 (rb.toNat : Int)) (.int .u8 (rdp.toNat : Int)) (.int .u8 (rcc.toNat : Int)) (.int .u16 (rx.toNat : Int)) (.int .u16 (ry.toNat : Int)) (.int .u16 (ru.toNat : Int)) (.int .u16 (rs.toNat : Int)) (.int .u16 (rpc.toNat : Int)))
    refine bodyPost_ret (v := .tuple #[.int .u16 ((O).toNat : Int), .agg #[.int .u8 (ra.toNat : Int), .int .u8 (rb.toNat : Int), .int .u8 (rdp.toNat : Int), .int .u8 (rcc.toNat : Int), .int .u16 (rx.toNat : Int), .int .u16 (ry.toNat : Int), .int .u16 (ru.toNat : Int), .int .u16 (rs.toNat : Int), .int .u16 (rpc.toNat : Int)]]) ?_ rfl ⟨rfl, ?_⟩
    · exact (results_tmp_cell (p := 9) (q := 8) (ty := 39) rfl _ _ (w.heap.size + 1 + 1) 39 #[.int .u8 (ra.toNat : Int), .int .u8 (rb.toNat : Int), .int .u8 (rdp.toNat : Int), .int .u8 (rcc.toNat : Int), .int .u16 (rx.toNat : Int), .int .u16 (ry.toNat : Int), .int .u16 (ru.toNat : Int), .int .u16 (rs.toNat : Int), .int .u16 (rpc.toNat : Int)] (0, 0) _ rfl BR Tryz.underlying39 rfl (by kernel_rfl)).trans rfl
    · have hle : w.heap.size ≤ w.heap.size + 1 + 1 := by omega
      exact (Below.set9 hbb hle _ _ _ _ _ _ _ _ _).drew
set_option maxRecDepth 100000 in
set_option maxHeartbeats 1000000 in
theorem indexOf_else (k rg : Int) (off : UInt16) (ind : Bool) (r : Regs) (v next O : UInt16) (s : UInt16 × UInt16) (t : Bool) (w : World) (h11 : k ≠ 11) (h12 : k ≠ 12) (h13 : k ≠ 13)
    (HO : Hid (∀ W : World, Calls Tryz.prog 234 #[Post.v ⟨k, rg, off, ind⟩, r.v, .int .u16 (v.toNat : Int)] W fun e w' => e = .returned (.int .u16 (O.toNat : Int)) ∧ Below W.heap.size W w'))
    (HST : Hid (∀ W : World, Calls Tryz.prog 235 #[.int .i64 k] W fun e w' => e = .returned (.tuple #[.int .u16 (s.1.toNat : Int), .int .u16 (s.2.toNat : Int)]) ∧ W = w'))
    (eor : (Go.bits .or .u16 (s.1.toNat : Int) (s.2.toNat : Int) != 0) = t) :
    Calls Tryz.prog 199 #[Post.v ⟨k, rg, off, ind⟩, r.v, .int .u16 (v.toNat : Int), .int .u16 (next.toNat : Int)] w fun e w' => e = .returned (.tuple #[.int .u16 ((plusW (plusW (r.get rg) s.1) O).toNat : Int), (if t then r.set rg (plusW (plusW (r.get rg) s.1) s.2) else r).v]) ∧ Below w.heap.size w w' := by
  have e11 : (k == 11) = false := beq_eq_false_iff_ne.mpr h11
  have e12 : (k == 12) = false := beq_eq_false_iff_ne.mpr h12
  have e13 : (k == 13) = false := beq_eq_false_iff_ne.mpr h13
  have pe := plus_e
  clear h11 h12 h13
  cases t
  · go_enter Tryz.func199, Tryz.ntmps199
    go_wp2_with (first | (go_at_call 234; refine (HO.out _).mono ?_; rintro e w1 ⟨rfl, hb⟩; have B0 := Blk.below (Blk.alloc (Blk.newAt2 _ _ _ w.heap.size rfl _) _) hb (by simp; omega); have B1 := Blk.below (Blk.newAt2 _ _ _ (w.heap.size + 1) (by simp) _) hb (by simp); have B2 := Blk.below (Blk.newAt _ _ _ (w.heap.size + 1 + 1) (by simp)) hb (by simp); have b0 := B0.cell 0; have b1 := B0.cell 1; have F1 := LBlk9 B1; have F2 := LBlk9 B2; have FE := Lib.hid B2; have hbb : Below w.heap.size w w1 := below_then (below_alloc (below_alloc (below_alloc (Below.refl _ _) _) _) _) hb; have n2 : w.heap.size + 1 + 1 < w1.heap.size := (by have := hb.size; simp at this; omega); have n1 : w.heap.size + 1 < w1.heap.size := (by omega); have n0 : w.heap.size < w1.heap.size := (by omega); clear hb B0 B1 B2) | (go_at_call 235; refine (HST.out _).mono ?_; rintro e w1 ⟨rfl, rfl⟩))
    have BF := Blk.newAt w1 200 #[.int .u8 (r.a.toNat : Int), .int .u8 (r.b.toNat : Int), .int .u8 (r.dp.toNat : Int), .int .u8 (r.cc.toNat : Int), .int .u16 (r.x.toNat : Int), .int .u16 (r.y.toNat : Int), .int .u16 (r.u.toNat : Int), .int .u16 (r.s.toNat : Int), .int .u16 (r.pc.toNat : Int)] w1.heap.size rfl
    refine (Get_any w1.heap.size 200 r [] rg _ BF).mono ?_
    rintro e w2 ⟨rfl, n, rfl⟩
    have F3 := LBlk9 BF
    have FE := Lib.hid (FE.out.alloc (.cells #[.int .u8 (r.a.toNat : Int), .int .u8 (r.b.toNat : Int), .int .u8 (r.dp.toNat : Int), .int .u8 (r.cc.toNat : Int), .int .u16 (r.x.toNat : Int), .int .u16 (r.y.toNat : Int), .int .u16 (r.u.toNat : Int), .int .u16 (r.s.toNat : Int), .int .u16 (r.pc.toNat : Int)] 200))
    replace hbb := (below_alloc hbb (.cells #[.int .u8 (r.a.toNat : Int), .int .u8 (r.b.toNat : Int), .int .u8 (r.dp.toNat : Int), .int .u8 (r.cc.toNat : Int), .int .u16 (r.x.toNat : Int), .int .u16 (r.y.toNat : Int), .int .u16 (r.u.toNat : Int), .int .u16 (r.s.toNat : Int), .int .u16 (r.pc.toNat : Int)] 200))
    clear BF
    go_wp2
    go_region
    all_goals
      go_wp2
      have BR := Blk.set9 (FE.out.drewN (n + 1)) (.int .u8 (r.a.toNat : Int)) (.int .u8 (r.b.toNat : Int)) (.int .u8 (r.dp.toNat : Int)) (.int .u8 (r.cc.toNat : Int)) (.int .u16 (r.x.toNat : Int)) (.int .u16 (r.y.toNat : Int)) (.int .u16 (r.u.toNat : Int)) (.int .u16 (r.s.toNat : Int)) (.int .u16 (r.pc.toNat : Int))
      refine bodyPost_ret (v := .tuple #[.int .u16 ((plusW (plusW (r.get rg) s.1) O).toNat : Int), .agg #[.int .u8 (r.a.toNat : Int), .int .u8 (r.b.toNat : Int), .int .u8 (r.dp.toNat : Int), .int .u8 (r.cc.toNat : Int), .int .u16 (r.x.toNat : Int), .int .u16 (r.y.toNat : Int), .int .u16 (r.u.toNat : Int), .int .u16 (r.s.toNat : Int), .int .u16 (r.pc.toNat : Int)]]) ?_ rfl ⟨rfl, ?_⟩
      · exact (results_tmp_cell (p := 9) (q := 8) (ty := 39) rfl _ _ (w.heap.size + 1 + 1) 39 #[.int .u8 (r.a.toNat : Int), .int .u8 (r.b.toNat : Int), .int .u8 (r.dp.toNat : Int), .int .u8 (r.cc.toNat : Int), .int .u16 (r.x.toNat : Int), .int .u16 (r.y.toNat : Int), .int .u16 (r.u.toNat : Int), .int .u16 (r.s.toNat : Int), .int .u16 (r.pc.toNat : Int)] (0, 0) _ rfl BR Tryz.underlying39 rfl (by kernel_rfl)).trans rfl
      · have hle : w.heap.size ≤ w.heap.size + 1 + 1 := by omega
        exact Below.set9 (below_drewN hbb (n + 1)) hle _ _ _ _ _ _ _ _ _
  · obtain ⟨q, hq⟩ : ∃ q, r.set rg (plusW (plusW (r.get rg) s.1) s.2) = q := ⟨_, rfl⟩
    rw [show (if true = true then r.set rg (plusW (plusW (r.get rg) s.1) s.2) else r) = q from by simp [hq]]
    have HQ := Lib.hid hq
    clear hq
    go_enter Tryz.func199, Tryz.ntmps199
    go_wp2_with (first | (go_at_call 234; refine (HO.out _).mono ?_; rintro e w1 ⟨rfl, hb⟩; have B0 := Blk.below (Blk.alloc (Blk.newAt2 _ _ _ w.heap.size rfl _) _) hb (by simp; omega); have B1 := Blk.below (Blk.newAt2 _ _ _ (w.heap.size + 1) (by simp) _) hb (by simp); have B2 := Blk.below (Blk.newAt _ _ _ (w.heap.size + 1 + 1) (by simp)) hb (by simp); have b0 := B0.cell 0; have b1 := B0.cell 1; have F1 := LBlk9 B1; have F2 := LBlk9 B2; have FE := Lib.hid B2; have hbb : Below w.heap.size w w1 := below_then (below_alloc (below_alloc (below_alloc (Below.refl _ _) _) _) _) hb; have n2 : w.heap.size + 1 + 1 < w1.heap.size := (by have := hb.size; simp at this; omega); have n1 : w.heap.size + 1 < w1.heap.size := (by omega); have n0 : w.heap.size < w1.heap.size := (by omega); clear hb B0 B1 B2) | (go_at_call 235; refine (HST.out _).mono ?_; rintro e w1 ⟨rfl, rfl⟩))
    have BF := Blk.newAt w1 200 #[.int .u8 (r.a.toNat : Int), .int .u8 (r.b.toNat : Int), .int .u8 (r.dp.toNat : Int), .int .u8 (r.cc.toNat : Int), .int .u16 (r.x.toNat : Int), .int .u16 (r.y.toNat : Int), .int .u16 (r.u.toNat : Int), .int .u16 (r.s.toNat : Int), .int .u16 (r.pc.toNat : Int)] w1.heap.size rfl
    refine (Get_any w1.heap.size 200 r [] rg _ BF).mono ?_
    rintro e w2 ⟨rfl, n, rfl⟩
    have BD := BF.drewN n
    clear BF
    go_wp2_with fail
    refine (Set_any w1.heap.size 200 r [] rg _ _ BD).mono ?_
    rintro e w3 ⟨rfl, B3, hg3⟩
    have FE := Lib.hid (Blk.grown (Blk.drewN (Blk.alloc FE.out _) n) hg3 (by intro h; injection h with h; omega))
    have hbb := (below_drewN (below_alloc hbb _) n).grown hg3 (by simp; omega) (by intro k hk; injection hk with hk; omega)
    rw [HQ.out] at B3
    have F3 := LBlk9 B3
    have F2 := LBlk9 FE.out
    clear B3 hg3 BD F1
    go_wp2
    go_region
    all_goals
      go_wp2
      have BR := Blk.drew (Blk.set9 FE.out (.int .u8 (q.a.toNat : Int)) (.int .u8 (q.b.toNat : Int)) (.int .u8 (q.dp.toNat : Int)) (.int .u8 (q.cc.toNat : Int)) (.int .u16 (q.x.toNat : Int)) (.int .u16 (q.y.toNat : Int)) (.int .u16 (q.u.toNat : Int)) (.int .u16 (q.s.toNat : Int)) (.int .u16 (q.pc.toNat : Int)))
      refine bodyPost_ret (v := .tuple #[.int .u16 ((plusW (plusW (r.get rg) s.1) O).toNat : Int), .agg #[.int .u8 (q.a.toNat : Int), .int .u8 (q.b.toNat : Int), .int .u8 (q.dp.toNat : Int), .int .u8 (q.cc.toNat : Int), .int .u16 (q.x.toNat : Int), .int .u16 (q.y.toNat : Int), .int .u16 (q.u.toNat : Int), .int .u16 (q.s.toNat : Int), .int .u16 (q.pc.toNat : Int)]]) ?_ rfl ⟨rfl, ?_⟩
      · exact (results_tmp_cell (p := 9) (q := 8) (ty := 39) rfl _ _ (w.heap.size + 1 + 1) 39 #[.int .u8 (q.a.toNat : Int), .int .u8 (q.b.toNat : Int), .int .u8 (q.dp.toNat : Int), .int .u8 (q.cc.toNat : Int), .int .u16 (q.x.toNat : Int), .int .u16 (q.y.toNat : Int), .int .u16 (q.u.toNat : Int), .int .u16 (q.s.toNat : Int), .int .u16 (q.pc.toNat : Int)] (0, 0) _ rfl BR Tryz.underlying39 rfl (by kernel_rfl)).trans rfl
      · have hle : w.heap.size ≤ w.heap.size + 1 + 1 := by omega
        exact (Below.set9 hbb hle _ _ _ _ _ _ _ _ _).drew
theorem indexOf_t (p : Post) (r : Regs) (v next : UInt16) (w : World) :
    Calls Tryz.prog 199 #[p.v, r.v, .int .u16 (v.toNat : Int), .int .u16 (next.toNat : Int)] w fun e w' => e = .returned (.tuple #[.int .u16 ((indexOf p r v next).1.toNat : Int), (indexOf p r v next).2.v]) ∧ Below w.heap.size w w' := by
  obtain ⟨k, rg, off, ind⟩ := p
  by_cases h11 : k = 11
  · subst h11; exact indexOf_11 rg off ind r v next w
  by_cases h12 : k = 12
  · subst h12; exact indexOf_12 rg off ind r v next w
  by_cases h13 : k = 13
  · subst h13; exact indexOf_13 rg off ind r v next w
  have h := indexOf_else k rg off ind r v next _ _ _ w h11 h12 h13 (Lib.hid (fun W => offset_t ⟨k, rg, off, ind⟩ r v W)) (Lib.hid (fun W => steps_t k W)) (by rw [or16w, ne0_16])
  rw [show indexOf ⟨k, rg, off, ind⟩ r v next = (plusW (plusW (r.get rg) (steps k).1) (offset ⟨k, rg, off, ind⟩ r v), if (steps k).1 ||| (steps k).2 != 0 then r.set rg (plusW (plusW (r.get rg) (steps k).1) (steps k).2) else r) from by simp [indexOf, h11, h12, h13]]
  exact h
end Go.Proofs.YtkdaphkpllgmbaaGreat

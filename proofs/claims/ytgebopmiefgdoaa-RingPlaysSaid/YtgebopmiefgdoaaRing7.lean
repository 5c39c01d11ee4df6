/-
  Contracts of ring.Last (with the two functions that the law hands to it) and of ring.Written.
-/
import Derived.Test.YtgebopmiefgdoaaRing6
namespace Go.Proofs.Ytgebopmiefgdoaa
open Go.RowKit Go.Shelf
attribute [local go_sem] Oper.semAt_some
theorem run_loadVar_one {P : Program} (w : World) (a : Addr) (ty : TypeId) (d : TypeDesc) (u : Value) (hu : P.underlying ty = some d) (hd : d.isRow = false) (hc : w.cell? a = some u) : (loadVar ty a).run P w = .ok u w := by
  have hagg : (isAgg ty).run P w = .ok false w := by
    unfold isAgg
    rw [Sem.run_bind, run_underlying hu w]
    cases d <;> simp_all
  simp [loadVar, Sem.run_bind, hagg, hc]
theorem results_cell_cell {P : Program} {fn : Func} {p q : Tmp} {ty ty2 : TypeId} (h : fn.results = #[.cell p ty, .cell q ty2]) (tmps : Array Value) (w : World) (g g2 : Nat) (t : TypeId) (cs : Array Value) (d d2 : TypeDesc) (u : Value)
    (hp : tmps.getD p undef = .pointer (some ⟨g, 0, none⟩)) (hq : tmps.getD q undef = .pointer (some ⟨g2, 0, none⟩)) (hg : w.heap[g]? = some (.cells cs t (0, 0)))
    (hu : P.underlying ty = some d) (hd : (match d with | .struct _ | .array _ _ => true | _ => false) = true) (hi : (P.info? ty).map (·.size) = some cs.size)
    (hu2 : P.underlying ty2 = some d2) (hd2 : d2.isRow = false) (hc : w.cell? ⟨g2, 0, none⟩ = some u) :
    (results fn tmps).run P w = .ok (.tuple #[.agg cs, u]) w := by
  have hp' : tmps[p]?.getD undef = .pointer (some ⟨g, 0, none⟩) := by simpa using hp
  have hq' : tmps[q]?.getD undef = .pointer (some ⟨g2, 0, none⟩) := by simpa using hq
  simp [results, h, hp', hq', asAddr, run_loadVar_row w g t ty cs (0, 0) d hg hu hd hi, run_loadVar_one w ⟨g2, 0, none⟩ ty2 d2 u hu2 hd2 hc]
theorem blk_putObj {W : World} {B D : Nat} {t : TypeId} {cs : Array Value} (h : Blk W B t cs) (hD : B ≠ D) (o : Obj) : Blk (W.putObj D o) B t cs := h.grown (grownBy_putObj' W D o) (fun e => hD (by cases e; rfl))
set_option maxRecDepth 100000 in
set_option maxHeartbeats 16000000 in
theorem LastIs_any {B g : Nat} {P : List Rec} {at_ high total N : Nat} {v : Value} (bnd : Int) (w : World) (h : RingAt B g P at_ high total v w) (hN : P.length = N) :
    Calls Try.prog 47 #[.pointer (some ⟨g, 0, none⟩), .func (.func 48) #[.agg #[.int .u16 bnd]] #[]] w fun e w' => e = .returned (.tuple #[Rec.v (lastR (ringL P at_) (fun x : Rec => decide (bnd ≤ x.addr))).1, .bool (lastR (ringL P at_) (fun x : Rec => decide (bnd ≤ x.addr))).2]) ∧ Below w.heap.size w w' := by
  have hglt := h.blk.lt
  have HH := Lib.hid h
  have HN := Lib.hid hN
  have HIS : Hid (∀ (W : World) (x : Rec), Below w.heap.size w W → Calls Try.prog 48 #[.agg #[.int .u16 bnd], Rec.v x] W fun e w' => e = .returned (.bool ((fun x : Rec => decide (bnd ≤ x.addr)) x)) ∧ Below W.heap.size W w') := fun W x hb => Is_any bnd x W
  clear h hN
  obtain ⟨p, hp⟩ : ∃ p : Rec → Bool, p = (fun x : Rec => decide (bnd ≤ x.addr)) := ⟨_, rfl⟩
  rw [← hp] at HIS ⊢
  clear hp
  refine (callsIn_wide (n := 6)).1 ?_
  refine callsIn_of_wp_marks Try.func47 rfl trivial ?_ rfl
  simp only [Try.ntmps47, List.size_toArray, List.length_cons, List.length_nil, Nat.reduceAdd, Nat.reduceSub, Array.replicate_succ, Array.replicate_zero, List.push_toArray, List.append_toArray, List.nil_append, List.cons_append]
  gi_wp2_with ((refine ⟨trivial, ?_⟩; gi_at_call 109; refine (callsIn_wide.2 (Back_any g _)).mono ?_; rintro e w1 ⟨rfl, rfl⟩))
  have bF := (((Boxed.new w 67 (.func (.func 48) #[.agg #[.int .u16 bnd]] #[])).alloc (.cells zeroArr 64)).alloc (.cells #[.bool false] 4)).alloc (.cells #[.pointer (some ⟨g, 0, none⟩)] 55)
  have bZ := ((Blk.new (w.alloc (.cells #[.func (.func 48) #[.agg #[.int .u16 bnd]] #[]] 67)) 64 zeroArr).alloc (.cells #[.bool false] 4)).alloc (.cells #[.pointer (some ⟨g, 0, none⟩)] 55)
  have bT := (Boxed.new ((w.alloc (.cells #[.func (.func 48) #[.agg #[.int .u16 bnd]] #[]] 67)).alloc (.cells zeroArr 64)) 4 (.bool false)).alloc (.cells #[.pointer (some ⟨g, 0, none⟩)] 55)
  have bR := Boxed.new (((w.alloc (.cells #[.func (.func 48) #[.agg #[.int .u16 bnd]] #[]] 67)).alloc (.cells zeroArr 64)).alloc (.cells #[.bool false] 4)) 55 (.pointer (some ⟨g, 0, none⟩))
  simp only [World.size_alloc] at bZ bT bR
  have hB0 : Below w.heap.size w ((((w.alloc (.cells #[.func (.func 48) #[.agg #[.int .u16 bnd]] #[]] 67)).alloc (.cells zeroArr 64)).alloc (.cells #[.bool false] 4)).alloc (.cells #[.pointer (some ⟨g, 0, none⟩)] 55)) := ((((Below.refl _ w).alloc (Nat.le_refl _) _).alloc (by simp) _).alloc (by simp; omega) _).alloc (by simp; omega) _
  have hsz : ((((w.alloc (.cells #[.func (.func 48) #[.agg #[.int .u16 bnd]] #[]] 67)).alloc (.cells zeroArr 64)).alloc (.cells #[.bool false] 4)).alloc (.cells #[.pointer (some ⟨g, 0, none⟩)] 55)).heap.size = w.heap.size + 4 := by simp
  obtain ⟨W0, hW0⟩ : ∃ W0, ((((w.alloc (.cells #[.func (.func 48) #[.agg #[.int .u16 bnd]] #[]] 67)).alloc (.cells zeroArr 64)).alloc (.cells #[.bool false] 4)).alloc (.cells #[.pointer (some ⟨g, 0, none⟩)] 55)) = W0 := ⟨_, rfl⟩
  have hW0' := hW0
  unfold zeroArr at hW0'
  rw [hW0] at bF bZ bT bR hB0 hsz
  rw [hW0']
  clear hW0 hW0'
  have hvb : ∀ q, v.ownBlock = some q → q < (w.heap.size + 1 + 1 + 1 + 1) := fun q e => by have := (HH.out.own.lt q e).2; omega
  refine wpIn_rangeFunc_ownH rfl (by omega) (gf := 128) (lb := #[.pointer (some ⟨w.heap.size + 1 + 1 + 1, 0, none⟩)]) rfl trivial (enters_of Try.func128 (by kernel_rfl) rfl)
    (Back_stops (n₀ := (w.heap.size + 1 + 1 + 1 + 1)) (6 - 1) (by omega) (w.heap.size + 1 + 1 + 1) W0 (HH.out.below hB0) HN.out bR.cell (by omega) hvb (by omega) (by omega)) belowK_t (belowK_b (by omega)) (Below.refl _ _) (fun _ => rfl)
    (fun pre W => ((∀ y ∈ pre, p y = false) ∧ (Boxed W w.heap.size 67 (.func (.func 48) #[.agg #[.int .u16 bnd]] #[]) ∧ Blk W (w.heap.size + 1) 64 zeroArr ∧ Boxed W (w.heap.size + 1 + 1) 4 (.bool false) ∧ Boxed W (w.heap.size + 1 + 1 + 1) 55 (.pointer (some ⟨g, 0, none⟩)))) ∧ Below w.heap.size w W)
    (fun c pre W => ((c = .ret ∧ ∃ ys x, pre = ys ++ [x] ∧ (∀ y ∈ ys, p y = false) ∧ p x = true) ∧ (Blk W (w.heap.size + 1) 64 (Rec.arr (pre.getLast?.getD rec0)) ∧ Boxed W (w.heap.size + 1 + 1) 4 (.bool true))) ∧ Below w.heap.size w W)
    (OwnFrom.and (OwnFrom.and (ownFrom_pure _ (fun pre : List Rec => ∀ y ∈ pre, p y = false)) (OwnFrom.and (Own.from (boxed_own _ _ (fun _ : List Rec => .func (.func 48) #[.agg #[.int .u16 bnd]] #[])) _) (OwnFrom.and (Own.from (blk_own _ _ (fun _ : List Rec => zeroArr)) _) (OwnFrom.and (Own.from (boxed_own _ _ (fun _ : List Rec => .bool false)) _) (Own.from (boxed_own _ _ (fun _ : List Rec => .pointer (some ⟨g, 0, none⟩))) _))))) (ownFrom_below (Nat.le_refl _) (by omega)))
    (fun c => OwnFrom.and (OwnFrom.and (ownFrom_pure _ (fun pre : List Rec => c = .ret ∧ ∃ ys x, pre = ys ++ [x] ∧ (∀ y ∈ ys, p y = false) ∧ p x = true)) (OwnFrom.and (Own.from (blk_own _ _ (fun pre : List Rec => Rec.arr (pre.getLast?.getD rec0))) _) (Own.from (boxed_own _ _ (fun _ : List Rec => .bool true)) _))) (ownFrom_below (Nat.le_refl _) (by omega)))
    ⟨⟨by simp, bF, bZ, bT, bR⟩, hB0⟩
    (fun x a' W => ∃ Bx, (w.heap.size + 1 + 1 + 1) < Bx ∧ Blk W Bx 64 x.arr ∧ a' = { tmps := #[.pointer (some ⟨g, 0, none⟩), .func (.func 48) #[.agg #[.int .u16 bnd]] #[], undef, .pointer (some ⟨w.heap.size, 0, none⟩), .pointer (some ⟨w.heap.size + 1, 0, none⟩), .pointer (some ⟨w.heap.size + 1 + 1, 0, none⟩), .pointer (some ⟨Bx, 0, none⟩), .pointer (some ⟨g, 0, none⟩), .func (.func 128) #[] #[.pointer (some ⟨w.heap.size + 1 + 1 + 1, 0, none⟩)], Rec.v x, undef, undef, undef, undef, undef], defers := [] })
    (fun x a' _ X Y row hs hg hr => by obtain ⟨Bx, h1, h2, h3⟩ := hs; exact ⟨Bx, h1, blk_own Bx 64 (fun (_ : Unit) => Rec.arr x) () X Y row h2 hg (fun r e => (hr r e).2), h3⟩)
    ?assign ?body ?done ?stop
  case assign =>
    rintro l pre ⟨x0, x1, x2, x3, x4, x5, x6, x7, x8⟩ W K ⟨⟨hpre, bF1, bZ1, bT1, bR1⟩, hB1⟩ hK
    simp only [Rec.v, Rec.cells] at *
    have hlt := bR1.lt
    have HZ := Lib.hid bZ1
    clear bZ1
    gi_wp2
    exact hK _ _ ((KeepsOthers.alloc _ _).from _) ((Below.refl _ W).alloc (by omega) _) ⟨⟨hpre, bF1.alloc _, HZ.out.alloc _, bT1.alloc _, bR1.alloc _⟩, hB1.alloc hB1.size _⟩ ⟨W.heap.size, hlt, Blk.new W _ _, rfl⟩
  case body =>
    rintro l pre ⟨x0, x1, x2, x3, x4, x5, x6, x7, x8⟩ a' W hl _ ⟨⟨hpre, bF1, bZ1, bT1, bR1⟩, hB1⟩ ⟨Bx, hBx, bX, rfl⟩ hlt
    have HISX := HIS.out W ⟨x0, x1, x2, x3, x4, x5, x6, x7, x8⟩ hB1
    simp only [Rec.v, Rec.cells] at HISX ⊢
    have cF := bF1.cell
    have hltX := bX.lt
    have hltR := bR1.lt
    have c0 := bX.cell 0
    have c1 := bX.cell 1
    have c2 := bX.cell 2
    have c3 := bX.cell 3
    have c4 := bX.cell 4
    have c5 := bX.cell 5
    have c6 := bX.cell 6
    have c7 := bX.cell 7
    have c8 := bX.cell 8
    simp only [Rec.arr, List.getElem?_toArray, List.getElem?_cons_zero, List.getElem?_cons_succ] at c0 c1 c2 c3 c4 c5 c6 c7 c8
    have HPRE := Lib.hid hpre
    have HZ := Lib.hid bZ1
    have HBX := Lib.hid bX
    have HF := Lib.hid bF1
    have HT := Lib.hid bT1
    have HRR := Lib.hid bR1
    clear hpre bZ1 bX bF1 bT1 bR1
    cases hpx : p ⟨x0, x1, x2, x3, x4, x5, x6, x7, x8⟩ with
    | true =>
      rw [hpx] at HISX
      have HI := Lib.hid HISX
      have HPX := Lib.hid hpx
      clear HISX hpx
      gi_wp2_with ((refine ⟨trivial, ?_⟩; gi_at_call 48; refine (CallsIn.inRound l (callsIn_wide.2 HI.out)).mono ?_; rintro e w1 ⟨rfl, hb1⟩; have d0 := (HBX.out.below hb1 hltX).cell 0; have y0 := (HZ.out.below hb1 (by omega)).cell 0; have d1 := (HBX.out.below hb1 hltX).cell 1; have y1 := (HZ.out.below hb1 (by omega)).cell 1; have d2 := (HBX.out.below hb1 hltX).cell 2; have y2 := (HZ.out.below hb1 (by omega)).cell 2; have d3 := (HBX.out.below hb1 hltX).cell 3; have y3 := (HZ.out.below hb1 (by omega)).cell 3; have d4 := (HBX.out.below hb1 hltX).cell 4; have y4 := (HZ.out.below hb1 (by omega)).cell 4; have d5 := (HBX.out.below hb1 hltX).cell 5; have y5 := (HZ.out.below hb1 (by omega)).cell 5; have d6 := (HBX.out.below hb1 hltX).cell 6; have y6 := (HZ.out.below hb1 (by omega)).cell 6; have d7 := (HBX.out.below hb1 hltX).cell 7; have y7 := (HZ.out.below hb1 (by omega)).cell 7; have d8 := (HBX.out.below hb1 hltX).cell 8; have y8 := (HZ.out.below hb1 (by omega)).cell 8; have fy := (HZ.out.below hb1 (by omega)).frozen; have yt := (Blk.below (cs := #[.bool false]) HT.out hb1 (by omega)).cell 0; have ft := (Blk.below (cs := #[.bool false]) HT.out hb1 (by omega)).frozen 0; simp only [zeroArr, Rec.arr, List.getElem?_toArray, List.getElem?_cons_zero, List.getElem?_cons_succ] at d0 y0 d1 y1 d2 y2 d3 y3 d4 y4 d5 y5 d6 y6 d7 y7 d8 y8 yt))
      have hKB := keeps_below (B := W0.heap.size) hb1
      have hBB := hB1.trans (hb1.mono hB1.size)
      exact ⟨((((((((((hKB.trans ((KeepsOthers.setCell _ _ _).from _)).trans ((KeepsOthers.setCell _ _ _).from _)).trans ((KeepsOthers.setCell _ _ _).from _)).trans ((KeepsOthers.setCell _ _ _).from _)).trans ((KeepsOthers.setCell _ _ _).from _)).trans ((KeepsOthers.setCell _ _ _).from _)).trans ((KeepsOthers.setCell _ _ _).from _)).trans ((KeepsOthers.setCell _ _ _).from _)).trans ((KeepsOthers.setCell _ _ _).from _)).trans ((KeepsOthers.setCell _ _ _).from _)), ⟨⟨⟨rfl, pre, _, rfl, HPRE.out, HPX.out⟩, ⟨by
        have h := (((((((((((HZ.out.below hb1 (by omega)).set_ 0 (.int .u16 x0)).set_ 1 (.int .u8 x1)).set_ 2 (.bool x2)).set_ 3 (.bool x3)).set_ 4 (.bool x4)).set_ 5 (.bool x5)).set_ 6 (.bool x6)).set_ 7 (.bool x7)).set_ 8 (.bool x8)).far (p := ⟨w.heap.size + 1 + 1, 0, none⟩) (by simp) (.bool true))
        simpa [Rec.arr, zeroArr] using h, (Boxed.set (.bool true) (Blk.far (cs := #[.bool false]) (p := ⟨w.heap.size + 1, 8, none⟩) (Blk.far (cs := #[.bool false]) (p := ⟨w.heap.size + 1, 7, none⟩) (Blk.far (cs := #[.bool false]) (p := ⟨w.heap.size + 1, 6, none⟩) (Blk.far (cs := #[.bool false]) (p := ⟨w.heap.size + 1, 5, none⟩) (Blk.far (cs := #[.bool false]) (p := ⟨w.heap.size + 1, 4, none⟩) (Blk.far (cs := #[.bool false]) (p := ⟨w.heap.size + 1, 3, none⟩) (Blk.far (cs := #[.bool false]) (p := ⟨w.heap.size + 1, 2, none⟩) (Blk.far (cs := #[.bool false]) (p := ⟨w.heap.size + 1, 1, none⟩) (Blk.far (cs := #[.bool false]) (p := ⟨w.heap.size + 1, 0, none⟩) (show Boxed w1 (w.heap.size + 1 + 1) 4 (.bool false) from Blk.below (cs := #[.bool false]) HT.out hb1 (by omega)) (by simp) _) (by simp) _) (by simp) _) (by simp) _) (by simp) _) (by simp) _) (by simp) _) (by simp) _) (by simp) _))⟩⟩, ((((((((((hBB.setCell (p := ⟨w.heap.size + 1, 0, none⟩) (by simp) _).setCell (p := ⟨w.heap.size + 1, 1, none⟩) (by simp) _).setCell (p := ⟨w.heap.size + 1, 2, none⟩) (by simp) _).setCell (p := ⟨w.heap.size + 1, 3, none⟩) (by simp) _).setCell (p := ⟨w.heap.size + 1, 4, none⟩) (by simp) _).setCell (p := ⟨w.heap.size + 1, 5, none⟩) (by simp) _).setCell (p := ⟨w.heap.size + 1, 6, none⟩) (by simp) _).setCell (p := ⟨w.heap.size + 1, 7, none⟩) (by simp) _).setCell (p := ⟨w.heap.size + 1, 8, none⟩) (by simp) _).setCell (p := ⟨w.heap.size + 1 + 1, 0, none⟩) (by simp; omega) _)⟩⟩
    | false =>
      rw [hpx] at HISX
      have HI := Lib.hid HISX
      have HPX := Lib.hid hpx
      clear HISX hpx
      gi_wp2_with ((refine ⟨trivial, ?_⟩; gi_at_call 48; refine (CallsIn.inRound l (callsIn_wide.2 HI.out)).mono ?_; rintro e w1 ⟨rfl, hb1⟩))
      exact ⟨keeps_below hb1, hb1.mono (by omega), ⟨⟨fun y hy => by
        rw [List.mem_append, List.mem_singleton] at hy
        rcases hy with hy | rfl
        · exact HPRE.out y hy
        · exact HPX.out, Blk.below (cs := #[.func (.func 48) #[.agg #[.int .u16 bnd]] #[]]) HF.out hb1 (by omega), HZ.out.below hb1 (by omega), Blk.below (cs := #[.bool false]) HT.out hb1 (by omega), Blk.below (cs := #[.pointer (some ⟨g, 0, none⟩)]) HRR.out hb1 (by omega)⟩, hB1.trans (hb1.mono hB1.size)⟩⟩
  case done =>
    rintro D xs W hD rfl ⟨⟨hpre, bF1, bZ1, bT1, bR1⟩, hB1⟩ hK
    have hnone : (ringL P at_).reverse.find? p = none := by
      rw [List.find?_eq_none]
      intro y hy h
      rw [hpre y hy] at h
      cases h
    have HNO := Lib.hid hnone
    have ct := bT1.cell
    have ft := bT1.frozen
    have fz := bZ1.frozen
    have z0 := bZ1.cell 0
    have z1 := bZ1.cell 1
    have z2 := bZ1.cell 2
    have z3 := bZ1.cell 3
    have z4 := bZ1.cell 4
    have z5 := bZ1.cell 5
    have z6 := bZ1.cell 6
    have z7 := bZ1.cell 7
    have z8 := bZ1.cell 8
    simp only [zeroArr, List.getElem?_toArray, List.getElem?_cons_zero, List.getElem?_cons_succ] at z0 z1 z2 z3 z4 z5 z6 z7 z8
    have HZ := Lib.hid bZ1
    have HT := Lib.hid bT1
    clear hpre hnone bZ1 bT1 bF1 bR1
    gi_wp2
    have hKK := (((((((((((KeepsOthers.refl W).trans (KeepsOthers.setCell _ ⟨w.heap.size + 1, 0, none⟩ (.int .u16 0))).trans (KeepsOthers.setCell _ ⟨w.heap.size + 1, 1, none⟩ (.int .u8 0))).trans (KeepsOthers.setCell _ ⟨w.heap.size + 1, 2, none⟩ (.bool false))).trans (KeepsOthers.setCell _ ⟨w.heap.size + 1, 3, none⟩ (.bool false))).trans (KeepsOthers.setCell _ ⟨w.heap.size + 1, 4, none⟩ (.bool false))).trans (KeepsOthers.setCell _ ⟨w.heap.size + 1, 5, none⟩ (.bool false))).trans (KeepsOthers.setCell _ ⟨w.heap.size + 1, 6, none⟩ (.bool false))).trans (KeepsOthers.setCell _ ⟨w.heap.size + 1, 7, none⟩ (.bool false))).trans (KeepsOthers.setCell _ ⟨w.heap.size + 1, 8, none⟩ (.bool false))).trans (KeepsOthers.setCell _ ⟨w.heap.size + 1 + 1, 0, none⟩ (.bool false))).same D _ hK rfl
    have hBB := hB1
    have HZ2 : Blk _ (w.heap.size + 1) 64 zeroArr := ((((((((((HZ.out.set_ 0 (.int .u16 0)).set_ 1 (.int .u8 0)).set_ 2 (.bool false)).set_ 3 (.bool false)).set_ 4 (.bool false)).set_ 5 (.bool false)).set_ 6 (.bool false)).set_ 7 (.bool false)).set_ 8 (.bool false)).far (p := ⟨w.heap.size + 1 + 1, 0, none⟩) (by simp) (.bool false))
    have HT2 : Boxed _ (w.heap.size + 1 + 1) 4 (.bool false) := (Boxed.set (.bool false) (Blk.far (cs := #[.bool false]) (p := ⟨w.heap.size + 1, 8, none⟩) (Blk.far (cs := #[.bool false]) (p := ⟨w.heap.size + 1, 7, none⟩) (Blk.far (cs := #[.bool false]) (p := ⟨w.heap.size + 1, 6, none⟩) (Blk.far (cs := #[.bool false]) (p := ⟨w.heap.size + 1, 5, none⟩) (Blk.far (cs := #[.bool false]) (p := ⟨w.heap.size + 1, 4, none⟩) (Blk.far (cs := #[.bool false]) (p := ⟨w.heap.size + 1, 3, none⟩) (Blk.far (cs := #[.bool false]) (p := ⟨w.heap.size + 1, 2, none⟩) (Blk.far (cs := #[.bool false]) (p := ⟨w.heap.size + 1, 1, none⟩) (Blk.far (cs := #[.bool false]) (p := ⟨w.heap.size + 1, 0, none⟩) HT.out (by simp) (.int .u16 0)) (by simp) (.int .u8 0)) (by simp) (.bool false)) (by simp) (.bool false)) (by simp) (.bool false)) (by simp) (.bool false)) (by simp) (.bool false)) (by simp) (.bool false)) (by simp) (.bool false)))
    refine ⟨by simp, .inl ⟨_, _, rfl, run_takeDeferred hKK, ?_⟩⟩
    refine ⟨_, results_cell_cell rfl _ _ (w.heap.size + 1) (w.heap.size + 1 + 1) 64 zeroArr _ _ (.bool false) rfl rfl (blk_putObj HZ2 (by omega) _) Try.underlying64 rfl (by kernel_rfl) Try.underlying4 rfl (Boxed.cell (blk_putObj (cs := #[.bool false]) HT2 (by omega) _)), ?_, Below.trans ((((((((((hB1.setCell (p := ⟨w.heap.size + 1, 0, none⟩) (by simp) (.int .u16 0)).setCell (p := ⟨w.heap.size + 1, 1, none⟩) (by simp) (.int .u8 0)).setCell (p := ⟨w.heap.size + 1, 2, none⟩) (by simp) (.bool false)).setCell (p := ⟨w.heap.size + 1, 3, none⟩) (by simp) (.bool false)).setCell (p := ⟨w.heap.size + 1, 4, none⟩) (by simp) (.bool false)).setCell (p := ⟨w.heap.size + 1, 5, none⟩) (by simp) (.bool false)).setCell (p := ⟨w.heap.size + 1, 6, none⟩) (by simp) (.bool false)).setCell (p := ⟨w.heap.size + 1, 7, none⟩) (by simp) (.bool false)).setCell (p := ⟨w.heap.size + 1, 8, none⟩) (by simp) (.bool false)).setCell (p := ⟨w.heap.size + 1 + 1, 0, none⟩) (by simp; omega) (.bool false)) (belowK_b (w := w) (Nat.le_refl _) _ D _ _ (by omega) hKK rfl rfl)⟩
    simp only [lastR, HNO.out]
    rfl
  case stop =>
    rintro D c pre W hD ⟨k, hk, rfl⟩ ⟨⟨⟨rfl, ys, x, hys, hno, hx⟩, bZ1, bT1⟩, hB1⟩ hK
    have hfind : (ringL P at_).reverse.find? p = some x := by
      have hp : ys ++ [x] <+: (ringL P at_).reverse := by
        rw [← hys]
        exact List.take_prefix _ _
      obtain ⟨rest, hrest⟩ := hp
      rw [← hrest, List.append_assoc, List.find?_append]
      have : ys.find? p = none := by
        rw [List.find?_eq_none]
        intro y hy h
        rw [hno y hy] at h
        cases h
      rw [this]
      simp [hx]
    have HNO := Lib.hid hfind
    rw [hys, List.getLast?_concat] at bZ1
    replace bZ1 : Blk W (w.heap.size + 1) 64 (Rec.arr x) := bZ1
    have HZ := Lib.hid bZ1
    have HT := Lib.hid bT1
    clear hys hno hx hfind bZ1 bT1
    gi_wp2
    refine ⟨by simp, .inl ⟨_, _, rfl, run_takeDeferred hK, ?_⟩⟩
    refine ⟨_, results_cell_cell rfl _ _ (w.heap.size + 1) (w.heap.size + 1 + 1) 64 (Rec.arr x) _ _ (.bool true) rfl rfl (blk_putObj HZ.out (by omega) _) Try.underlying64 rfl (by kernel_rfl) Try.underlying4 rfl (Boxed.cell (blk_putObj (cs := #[.bool true]) HT.out (by omega) _)), ?_, hB1.trans (belowK_b (w := w) (Nat.le_refl _) W D _ _ (by omega) hK rfl rfl)⟩
    simp only [lastR, HNO.out]
    rfl
set_option maxRecDepth 100000 in
set_option maxHeartbeats 16000000 in
theorem LastW_any {B g : Nat} {P : List Rec} {at_ high total N : Nat} {v : Value} (bnd : Int) (Bb : Nat) (w : World) (h : RingAt B g P at_ high total v w) (hN : P.length = N) (hbx : Boxed w Bb 22 (.int .u16 bnd)) :
    Calls Try.prog 47 #[.pointer (some ⟨g, 0, none⟩), .func (.func 110) #[] #[.pointer (some ⟨Bb, 0, none⟩)]] w fun e w' => e = .returned (.tuple #[Rec.v (lastR (ringL P at_) (fun x : Rec => !x.read && x.addr == bnd)).1, .bool (lastR (ringL P at_) (fun x : Rec => !x.read && x.addr == bnd)).2]) ∧ Below w.heap.size w w' := by
  have hglt := h.blk.lt
  have HH := Lib.hid h
  have HN := Lib.hid hN
  have HIS : Hid (∀ (W : World) (x : Rec), Below w.heap.size w W → Calls Try.prog 110 #[Rec.v x, .pointer (some ⟨Bb, 0, none⟩)] W fun e w' => e = .returned (.bool ((fun x : Rec => !x.read && x.addr == bnd) x)) ∧ Below W.heap.size W w') := fun W x hb => WrittenF_any bnd Bb x W (Blk.below (cs := #[.int .u16 bnd]) hbx hb (Boxed.lt hbx))
  clear h hN
  obtain ⟨p, hp⟩ : ∃ p : Rec → Bool, p = (fun x : Rec => !x.read && x.addr == bnd) := ⟨_, rfl⟩
  rw [← hp] at HIS ⊢
  clear hp
  refine (callsIn_wide (n := 6)).1 ?_
  refine callsIn_of_wp_marks Try.func47 rfl trivial ?_ rfl
  simp only [Try.ntmps47, List.size_toArray, List.length_cons, List.length_nil, Nat.reduceAdd, Nat.reduceSub, Array.replicate_succ, Array.replicate_zero, List.push_toArray, List.append_toArray, List.nil_append, List.cons_append]
  gi_wp2_with ((refine ⟨trivial, ?_⟩; gi_at_call 109; refine (callsIn_wide.2 (Back_any g _)).mono ?_; rintro e w1 ⟨rfl, rfl⟩))
  have bF := (((Boxed.new w 67 (.func (.func 110) #[] #[.pointer (some ⟨Bb, 0, none⟩)])).alloc (.cells zeroArr 64)).alloc (.cells #[.bool false] 4)).alloc (.cells #[.pointer (some ⟨g, 0, none⟩)] 55)
  have bZ := ((Blk.new (w.alloc (.cells #[.func (.func 110) #[] #[.pointer (some ⟨Bb, 0, none⟩)]] 67)) 64 zeroArr).alloc (.cells #[.bool false] 4)).alloc (.cells #[.pointer (some ⟨g, 0, none⟩)] 55)
  have bT := (Boxed.new ((w.alloc (.cells #[.func (.func 110) #[] #[.pointer (some ⟨Bb, 0, none⟩)]] 67)).alloc (.cells zeroArr 64)) 4 (.bool false)).alloc (.cells #[.pointer (some ⟨g, 0, none⟩)] 55)
  have bR := Boxed.new (((w.alloc (.cells #[.func (.func 110) #[] #[.pointer (some ⟨Bb, 0, none⟩)]] 67)).alloc (.cells zeroArr 64)).alloc (.cells #[.bool false] 4)) 55 (.pointer (some ⟨g, 0, none⟩))
  simp only [World.size_alloc] at bZ bT bR
  have hB0 : Below w.heap.size w ((((w.alloc (.cells #[.func (.func 110) #[] #[.pointer (some ⟨Bb, 0, none⟩)]] 67)).alloc (.cells zeroArr 64)).alloc (.cells #[.bool false] 4)).alloc (.cells #[.pointer (some ⟨g, 0, none⟩)] 55)) := ((((Below.refl _ w).alloc (Nat.le_refl _) _).alloc (by simp) _).alloc (by simp; omega) _).alloc (by simp; omega) _
  have hsz : ((((w.alloc (.cells #[.func (.func 110) #[] #[.pointer (some ⟨Bb, 0, none⟩)]] 67)).alloc (.cells zeroArr 64)).alloc (.cells #[.bool false] 4)).alloc (.cells #[.pointer (some ⟨g, 0, none⟩)] 55)).heap.size = w.heap.size + 4 := by simp
  obtain ⟨W0, hW0⟩ : ∃ W0, ((((w.alloc (.cells #[.func (.func 110) #[] #[.pointer (some ⟨Bb, 0, none⟩)]] 67)).alloc (.cells zeroArr 64)).alloc (.cells #[.bool false] 4)).alloc (.cells #[.pointer (some ⟨g, 0, none⟩)] 55)) = W0 := ⟨_, rfl⟩
  have hW0' := hW0
  unfold zeroArr at hW0'
  rw [hW0] at bF bZ bT bR hB0 hsz
  rw [hW0']
  clear hW0 hW0'
  have hvb : ∀ q, v.ownBlock = some q → q < (w.heap.size + 1 + 1 + 1 + 1) := fun q e => by have := (HH.out.own.lt q e).2; omega
  refine wpIn_rangeFunc_ownH rfl (by omega) (gf := 128) (lb := #[.pointer (some ⟨w.heap.size + 1 + 1 + 1, 0, none⟩)]) rfl trivial (enters_of Try.func128 (by kernel_rfl) rfl)
    (Back_stops (n₀ := (w.heap.size + 1 + 1 + 1 + 1)) (6 - 1) (by omega) (w.heap.size + 1 + 1 + 1) W0 (HH.out.below hB0) HN.out bR.cell (by omega) hvb (by omega) (by omega)) belowK_t (belowK_b (by omega)) (Below.refl _ _) (fun _ => rfl)
    (fun pre W => ((∀ y ∈ pre, p y = false) ∧ (Boxed W w.heap.size 67 (.func (.func 110) #[] #[.pointer (some ⟨Bb, 0, none⟩)]) ∧ Blk W (w.heap.size + 1) 64 zeroArr ∧ Boxed W (w.heap.size + 1 + 1) 4 (.bool false) ∧ Boxed W (w.heap.size + 1 + 1 + 1) 55 (.pointer (some ⟨g, 0, none⟩)))) ∧ Below w.heap.size w W)
    (fun c pre W => ((c = .ret ∧ ∃ ys x, pre = ys ++ [x] ∧ (∀ y ∈ ys, p y = false) ∧ p x = true) ∧ (Blk W (w.heap.size + 1) 64 (Rec.arr (pre.getLast?.getD rec0)) ∧ Boxed W (w.heap.size + 1 + 1) 4 (.bool true))) ∧ Below w.heap.size w W)
    (OwnFrom.and (OwnFrom.and (ownFrom_pure _ (fun pre : List Rec => ∀ y ∈ pre, p y = false)) (OwnFrom.and (Own.from (boxed_own _ _ (fun _ : List Rec => .func (.func 110) #[] #[.pointer (some ⟨Bb, 0, none⟩)])) _) (OwnFrom.and (Own.from (blk_own _ _ (fun _ : List Rec => zeroArr)) _) (OwnFrom.and (Own.from (boxed_own _ _ (fun _ : List Rec => .bool false)) _) (Own.from (boxed_own _ _ (fun _ : List Rec => .pointer (some ⟨g, 0, none⟩))) _))))) (ownFrom_below (Nat.le_refl _) (by omega)))
    (fun c => OwnFrom.and (OwnFrom.and (ownFrom_pure _ (fun pre : List Rec => c = .ret ∧ ∃ ys x, pre = ys ++ [x] ∧ (∀ y ∈ ys, p y = false) ∧ p x = true)) (OwnFrom.and (Own.from (blk_own _ _ (fun pre : List Rec => Rec.arr (pre.getLast?.getD rec0))) _) (Own.from (boxed_own _ _ (fun _ : List Rec => .bool true)) _))) (ownFrom_below (Nat.le_refl _) (by omega)))
    ⟨⟨by simp, bF, bZ, bT, bR⟩, hB0⟩
    (fun x a' W => ∃ Bx, (w.heap.size + 1 + 1 + 1) < Bx ∧ Blk W Bx 64 x.arr ∧ a' = { tmps := #[.pointer (some ⟨g, 0, none⟩), .func (.func 110) #[] #[.pointer (some ⟨Bb, 0, none⟩)], undef, .pointer (some ⟨w.heap.size, 0, none⟩), .pointer (some ⟨w.heap.size + 1, 0, none⟩), .pointer (some ⟨w.heap.size + 1 + 1, 0, none⟩), .pointer (some ⟨Bx, 0, none⟩), .pointer (some ⟨g, 0, none⟩), .func (.func 128) #[] #[.pointer (some ⟨w.heap.size + 1 + 1 + 1, 0, none⟩)], Rec.v x, undef, undef, undef, undef, undef], defers := [] })
    (fun x a' _ X Y row hs hg hr => by obtain ⟨Bx, h1, h2, h3⟩ := hs; exact ⟨Bx, h1, blk_own Bx 64 (fun (_ : Unit) => Rec.arr x) () X Y row h2 hg (fun r e => (hr r e).2), h3⟩)
    ?assign ?body ?done ?stop
  case assign =>
    rintro l pre ⟨x0, x1, x2, x3, x4, x5, x6, x7, x8⟩ W K ⟨⟨hpre, bF1, bZ1, bT1, bR1⟩, hB1⟩ hK
    simp only [Rec.v, Rec.cells] at *
    have hlt := bR1.lt
    have HZ := Lib.hid bZ1
    clear bZ1
    gi_wp2
    exact hK _ _ ((KeepsOthers.alloc _ _).from _) ((Below.refl _ W).alloc (by omega) _) ⟨⟨hpre, bF1.alloc _, HZ.out.alloc _, bT1.alloc _, bR1.alloc _⟩, hB1.alloc hB1.size _⟩ ⟨W.heap.size, hlt, Blk.new W _ _, rfl⟩
  case body =>
    rintro l pre ⟨x0, x1, x2, x3, x4, x5, x6, x7, x8⟩ a' W hl _ ⟨⟨hpre, bF1, bZ1, bT1, bR1⟩, hB1⟩ ⟨Bx, hBx, bX, rfl⟩ hlt
    have HISX := HIS.out W ⟨x0, x1, x2, x3, x4, x5, x6, x7, x8⟩ hB1
    simp only [Rec.v, Rec.cells] at HISX ⊢
    have cF := bF1.cell
    have hltX := bX.lt
    have hltR := bR1.lt
    have c0 := bX.cell 0
    have c1 := bX.cell 1
    have c2 := bX.cell 2
    have c3 := bX.cell 3
    have c4 := bX.cell 4
    have c5 := bX.cell 5
    have c6 := bX.cell 6
    have c7 := bX.cell 7
    have c8 := bX.cell 8
    simp only [Rec.arr, List.getElem?_toArray, List.getElem?_cons_zero, List.getElem?_cons_succ] at c0 c1 c2 c3 c4 c5 c6 c7 c8
    have HPRE := Lib.hid hpre
    have HZ := Lib.hid bZ1
    have HBX := Lib.hid bX
    have HF := Lib.hid bF1
    have HT := Lib.hid bT1
    have HRR := Lib.hid bR1
    clear hpre bZ1 bX bF1 bT1 bR1
    cases hpx : p ⟨x0, x1, x2, x3, x4, x5, x6, x7, x8⟩ with
    | true =>
      rw [hpx] at HISX
      have HI := Lib.hid HISX
      have HPX := Lib.hid hpx
      clear HISX hpx
      gi_wp2_with ((refine ⟨trivial, ?_⟩; gi_at_call 110; refine (CallsIn.inRound l (callsIn_wide.2 HI.out)).mono ?_; rintro e w1 ⟨rfl, hb1⟩; have d0 := (HBX.out.below hb1 hltX).cell 0; have y0 := (HZ.out.below hb1 (by omega)).cell 0; have d1 := (HBX.out.below hb1 hltX).cell 1; have y1 := (HZ.out.below hb1 (by omega)).cell 1; have d2 := (HBX.out.below hb1 hltX).cell 2; have y2 := (HZ.out.below hb1 (by omega)).cell 2; have d3 := (HBX.out.below hb1 hltX).cell 3; have y3 := (HZ.out.below hb1 (by omega)).cell 3; have d4 := (HBX.out.below hb1 hltX).cell 4; have y4 := (HZ.out.below hb1 (by omega)).cell 4; have d5 := (HBX.out.below hb1 hltX).cell 5; have y5 := (HZ.out.below hb1 (by omega)).cell 5; have d6 := (HBX.out.below hb1 hltX).cell 6; have y6 := (HZ.out.below hb1 (by omega)).cell 6; have d7 := (HBX.out.below hb1 hltX).cell 7; have y7 := (HZ.out.below hb1 (by omega)).cell 7; have d8 := (HBX.out.below hb1 hltX).cell 8; have y8 := (HZ.out.below hb1 (by omega)).cell 8; have fy := (HZ.out.below hb1 (by omega)).frozen; have yt := (Blk.below (cs := #[.bool false]) HT.out hb1 (by omega)).cell 0; have ft := (Blk.below (cs := #[.bool false]) HT.out hb1 (by omega)).frozen 0; simp only [zeroArr, Rec.arr, List.getElem?_toArray, List.getElem?_cons_zero, List.getElem?_cons_succ] at d0 y0 d1 y1 d2 y2 d3 y3 d4 y4 d5 y5 d6 y6 d7 y7 d8 y8 yt))
      have hKB := keeps_below (B := W0.heap.size) hb1
      have hBB := hB1.trans (hb1.mono hB1.size)
      exact ⟨((((((((((hKB.trans ((KeepsOthers.setCell _ _ _).from _)).trans ((KeepsOthers.setCell _ _ _).from _)).trans ((KeepsOthers.setCell _ _ _).from _)).trans ((KeepsOthers.setCell _ _ _).from _)).trans ((KeepsOthers.setCell _ _ _).from _)).trans ((KeepsOthers.setCell _ _ _).from _)).trans ((KeepsOthers.setCell _ _ _).from _)).trans ((KeepsOthers.setCell _ _ _).from _)).trans ((KeepsOthers.setCell _ _ _).from _)).trans ((KeepsOthers.setCell _ _ _).from _)), ⟨⟨⟨rfl, pre, _, rfl, HPRE.out, HPX.out⟩, ⟨by
        have h := (((((((((((HZ.out.below hb1 (by omega)).set_ 0 (.int .u16 x0)).set_ 1 (.int .u8 x1)).set_ 2 (.bool x2)).set_ 3 (.bool x3)).set_ 4 (.bool x4)).set_ 5 (.bool x5)).set_ 6 (.bool x6)).set_ 7 (.bool x7)).set_ 8 (.bool x8)).far (p := ⟨w.heap.size + 1 + 1, 0, none⟩) (by simp) (.bool true))
        simpa [Rec.arr, zeroArr] using h, (Boxed.set (.bool true) (Blk.far (cs := #[.bool false]) (p := ⟨w.heap.size + 1, 8, none⟩) (Blk.far (cs := #[.bool false]) (p := ⟨w.heap.size + 1, 7, none⟩) (Blk.far (cs := #[.bool false]) (p := ⟨w.heap.size + 1, 6, none⟩) (Blk.far (cs := #[.bool false]) (p := ⟨w.heap.size + 1, 5, none⟩) (Blk.far (cs := #[.bool false]) (p := ⟨w.heap.size + 1, 4, none⟩) (Blk.far (cs := #[.bool false]) (p := ⟨w.heap.size + 1, 3, none⟩) (Blk.far (cs := #[.bool false]) (p := ⟨w.heap.size + 1, 2, none⟩) (Blk.far (cs := #[.bool false]) (p := ⟨w.heap.size + 1, 1, none⟩) (Blk.far (cs := #[.bool false]) (p := ⟨w.heap.size + 1, 0, none⟩) (show Boxed w1 (w.heap.size + 1 + 1) 4 (.bool false) from Blk.below (cs := #[.bool false]) HT.out hb1 (by omega)) (by simp) _) (by simp) _) (by simp) _) (by simp) _) (by simp) _) (by simp) _) (by simp) _) (by simp) _) (by simp) _))⟩⟩, ((((((((((hBB.setCell (p := ⟨w.heap.size + 1, 0, none⟩) (by simp) _).setCell (p := ⟨w.heap.size + 1, 1, none⟩) (by simp) _).setCell (p := ⟨w.heap.size + 1, 2, none⟩) (by simp) _).setCell (p := ⟨w.heap.size + 1, 3, none⟩) (by simp) _).setCell (p := ⟨w.heap.size + 1, 4, none⟩) (by simp) _).setCell (p := ⟨w.heap.size + 1, 5, none⟩) (by simp) _).setCell (p := ⟨w.heap.size + 1, 6, none⟩) (by simp) _).setCell (p := ⟨w.heap.size + 1, 7, none⟩) (by simp) _).setCell (p := ⟨w.heap.size + 1, 8, none⟩) (by simp) _).setCell (p := ⟨w.heap.size + 1 + 1, 0, none⟩) (by simp; omega) _)⟩⟩
    | false =>
      rw [hpx] at HISX
      have HI := Lib.hid HISX
      have HPX := Lib.hid hpx
      clear HISX hpx
      gi_wp2_with ((refine ⟨trivial, ?_⟩; gi_at_call 110; refine (CallsIn.inRound l (callsIn_wide.2 HI.out)).mono ?_; rintro e w1 ⟨rfl, hb1⟩))
      exact ⟨keeps_below hb1, hb1.mono (by omega), ⟨⟨fun y hy => by
        rw [List.mem_append, List.mem_singleton] at hy
        rcases hy with hy | rfl
        · exact HPRE.out y hy
        · exact HPX.out, Blk.below (cs := #[.func (.func 110) #[] #[.pointer (some ⟨Bb, 0, none⟩)]]) HF.out hb1 (by omega), HZ.out.below hb1 (by omega), Blk.below (cs := #[.bool false]) HT.out hb1 (by omega), Blk.below (cs := #[.pointer (some ⟨g, 0, none⟩)]) HRR.out hb1 (by omega)⟩, hB1.trans (hb1.mono hB1.size)⟩⟩
  case done =>
    rintro D xs W hD rfl ⟨⟨hpre, bF1, bZ1, bT1, bR1⟩, hB1⟩ hK
    have hnone : (ringL P at_).reverse.find? p = none := by
      rw [List.find?_eq_none]
      intro y hy h
      rw [hpre y hy] at h
      cases h
    have HNO := Lib.hid hnone
    have ct := bT1.cell
    have ft := bT1.frozen
    have fz := bZ1.frozen
    have z0 := bZ1.cell 0
    have z1 := bZ1.cell 1
    have z2 := bZ1.cell 2
    have z3 := bZ1.cell 3
    have z4 := bZ1.cell 4
    have z5 := bZ1.cell 5
    have z6 := bZ1.cell 6
    have z7 := bZ1.cell 7
    have z8 := bZ1.cell 8
    simp only [zeroArr, List.getElem?_toArray, List.getElem?_cons_zero, List.getElem?_cons_succ] at z0 z1 z2 z3 z4 z5 z6 z7 z8
    have HZ := Lib.hid bZ1
    have HT := Lib.hid bT1
    clear hpre hnone bZ1 bT1 bF1 bR1
    gi_wp2
    have hKK := (((((((((((KeepsOthers.refl W).trans (KeepsOthers.setCell _ ⟨w.heap.size + 1, 0, none⟩ (.int .u16 0))).trans (KeepsOthers.setCell _ ⟨w.heap.size + 1, 1, none⟩ (.int .u8 0))).trans (KeepsOthers.setCell _ ⟨w.heap.size + 1, 2, none⟩ (.bool false))).trans (KeepsOthers.setCell _ ⟨w.heap.size + 1, 3, none⟩ (.bool false))).trans (KeepsOthers.setCell _ ⟨w.heap.size + 1, 4, none⟩ (.bool false))).trans (KeepsOthers.setCell _ ⟨w.heap.size + 1, 5, none⟩ (.bool false))).trans (KeepsOthers.setCell _ ⟨w.heap.size + 1, 6, none⟩ (.bool false))).trans (KeepsOthers.setCell _ ⟨w.heap.size + 1, 7, none⟩ (.bool false))).trans (KeepsOthers.setCell _ ⟨w.heap.size + 1, 8, none⟩ (.bool false))).trans (KeepsOthers.setCell _ ⟨w.heap.size + 1 + 1, 0, none⟩ (.bool false))).same D _ hK rfl
    have hBB := hB1
    have HZ2 : Blk _ (w.heap.size + 1) 64 zeroArr := ((((((((((HZ.out.set_ 0 (.int .u16 0)).set_ 1 (.int .u8 0)).set_ 2 (.bool false)).set_ 3 (.bool false)).set_ 4 (.bool false)).set_ 5 (.bool false)).set_ 6 (.bool false)).set_ 7 (.bool false)).set_ 8 (.bool false)).far (p := ⟨w.heap.size + 1 + 1, 0, none⟩) (by simp) (.bool false))
    have HT2 : Boxed _ (w.heap.size + 1 + 1) 4 (.bool false) := (Boxed.set (.bool false) (Blk.far (cs := #[.bool false]) (p := ⟨w.heap.size + 1, 8, none⟩) (Blk.far (cs := #[.bool false]) (p := ⟨w.heap.size + 1, 7, none⟩) (Blk.far (cs := #[.bool false]) (p := ⟨w.heap.size + 1, 6, none⟩) (Blk.far (cs := #[.bool false]) (p := ⟨w.heap.size + 1, 5, none⟩) (Blk.far (cs := #[.bool false]) (p := ⟨w.heap.size + 1, 4, none⟩) (Blk.far (cs := #[.bool false]) (p := ⟨w.heap.size + 1, 3, none⟩) (Blk.far (cs := #[.bool false]) (p := ⟨w.heap.size + 1, 2, none⟩) (Blk.far (cs := #[.bool false]) (p := ⟨w.heap.size + 1, 1, none⟩) (Blk.far (cs := #[.bool false]) (p := ⟨w.heap.size + 1, 0, none⟩) HT.out (by simp) (.int .u16 0)) (by simp) (.int .u8 0)) (by simp) (.bool false)) (by simp) (.bool false)) (by simp) (.bool false)) (by simp) (.bool false)) (by simp) (.bool false)) (by simp) (.bool false)) (by simp) (.bool false)))
    refine ⟨by simp, .inl ⟨_, _, rfl, run_takeDeferred hKK, ?_⟩⟩
    refine ⟨_, results_cell_cell rfl _ _ (w.heap.size + 1) (w.heap.size + 1 + 1) 64 zeroArr _ _ (.bool false) rfl rfl (blk_putObj HZ2 (by omega) _) Try.underlying64 rfl (by kernel_rfl) Try.underlying4 rfl (Boxed.cell (blk_putObj (cs := #[.bool false]) HT2 (by omega) _)), ?_, Below.trans ((((((((((hB1.setCell (p := ⟨w.heap.size + 1, 0, none⟩) (by simp) (.int .u16 0)).setCell (p := ⟨w.heap.size + 1, 1, none⟩) (by simp) (.int .u8 0)).setCell (p := ⟨w.heap.size + 1, 2, none⟩) (by simp) (.bool false)).setCell (p := ⟨w.heap.size + 1, 3, none⟩) (by simp) (.bool false)).setCell (p := ⟨w.heap.size + 1, 4, none⟩) (by simp) (.bool false)).setCell (p := ⟨w.heap.size + 1, 5, none⟩) (by simp) (.bool false)).setCell (p := ⟨w.heap.size + 1, 6, none⟩) (by simp) (.bool false)).setCell (p := ⟨w.heap.size + 1, 7, none⟩) (by simp) (.bool false)).setCell (p := ⟨w.heap.size + 1, 8, none⟩) (by simp) (.bool false)).setCell (p := ⟨w.heap.size + 1 + 1, 0, none⟩) (by simp; omega) (.bool false)) (belowK_b (w := w) (Nat.le_refl _) _ D _ _ (by omega) hKK rfl rfl)⟩
    simp only [lastR, HNO.out]
    rfl
  case stop =>
    rintro D c pre W hD ⟨k, hk, rfl⟩ ⟨⟨⟨rfl, ys, x, hys, hno, hx⟩, bZ1, bT1⟩, hB1⟩ hK
    have hfind : (ringL P at_).reverse.find? p = some x := by
      have hp : ys ++ [x] <+: (ringL P at_).reverse := by
        rw [← hys]
        exact List.take_prefix _ _
      obtain ⟨rest, hrest⟩ := hp
      rw [← hrest, List.append_assoc, List.find?_append]
      have : ys.find? p = none := by
        rw [List.find?_eq_none]
        intro y hy h
        rw [hno y hy] at h
        cases h
      rw [this]
      simp [hx]
    have HNO := Lib.hid hfind
    rw [hys, List.getLast?_concat] at bZ1
    replace bZ1 : Blk W (w.heap.size + 1) 64 (Rec.arr x) := bZ1
    have HZ := Lib.hid bZ1
    have HT := Lib.hid bT1
    clear hys hno hx hfind bZ1 bT1
    gi_wp2
    refine ⟨by simp, .inl ⟨_, _, rfl, run_takeDeferred hK, ?_⟩⟩
    refine ⟨_, results_cell_cell rfl _ _ (w.heap.size + 1) (w.heap.size + 1 + 1) 64 (Rec.arr x) _ _ (.bool true) rfl rfl (blk_putObj HZ.out (by omega) _) Try.underlying64 rfl (by kernel_rfl) Try.underlying4 rfl (Boxed.cell (blk_putObj (cs := #[.bool true]) HT.out (by omega) _)), ?_, hB1.trans (belowK_b (w := w) (Nat.le_refl _) W D _ _ (by omega) hK rfl rfl)⟩
    simp only [lastR, HNO.out]
    rfl
end Go.Proofs.Ytgebopmiefgdoaa

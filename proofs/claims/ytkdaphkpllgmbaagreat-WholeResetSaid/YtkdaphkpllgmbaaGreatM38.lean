/-
  The machine's run of cycles.
  The machine's steps.
  works(): a machine loads a byte, and stores it.
  The processor's state, told.
-/
import Derived.Test.YtkdaphkpllgmbaaGreatM36
import Derived.Deep.RegionHeld3
import Derived.Deep.MidRow
import Derived.Test.YtkdaphkpllgmbaaGreatM37
namespace Go.Proofs.YtkdaphkpllgmbaaGreat
open Go.RowKit Sp
set_option linter.unusedVariables false
set_option linter.unusedSimpArgs false
attribute [local go_sem] Sp.Pins.v Sp.Rec.v Sp.Rec.cells
section
variable {P : Program} {w : World}
theorem run_loadVar_at (w : World) (a : Addr) (ty : TypeId) (cs : List Value) (d : TypeDesc) (hc : ∀ j v, cs[j]? = some v → w.cell? (a.add j) = some v)
    (hu : P.underlying ty = some d) (hd : d.isRow = true) (hi : (P.info? ty).map (·.size) = some cs.length) :
    (loadVar ty a).run P w = .ok (.agg cs.toArray) w := by
  have hl : (loadCells a cs.length).run P w = .ok cs.toArray w :=
    run_loadCells_list (P := P) w a cs hc
  cases hq : P.info? ty with
  | none => simp [hq] at hi
  | some i =>
    have hs : i.size = cs.length := by simpa [hq] using hi
    have hagg : (isAgg ty).run P w = .ok true w := by
      unfold isAgg
      rw [Sem.run_bind, run_underlying hu w]
      cases d <;> simp_all
    simp [loadVar, Sem.run_bind, hagg, sizeOf, typeInfo, hq, hs, hl]
theorem wp_load_at {op : Oper} {a : Act} {K : Act → World → Prop} {Q : Exit → Act → World → Prop} (ty : TypeId) (x : Operand) (ho : op.op = .load ty x)
    (ad : Addr) (hx : a.eval x = .pointer (some ad)) (cs : List Value) (d : TypeDesc) (hc : ∀ j v, cs[j]? = some v → w.cell? (ad.add j) = some v)
    (hu : P.underlying ty = some d) (hd : d.isRow = true) (hi : (P.info? ty).map (·.size) = some cs.length)
    (h : K (a.put op.dst (.agg cs.toArray)) w) : op.wp P a w K Q := by
  unfold Oper.wp execOp
  simp only [ho, hx, Instr.loadAt, Instr.sureAddr, Sem.run_bind, Sem.run_pure, Result.andThen_ok, run_loadVar_at w ad ty cs d hc hu hd hi]
  exact h
theorem wpList_load_at {ops : Array Oper} {rest : List Oper} {op : Oper} {a : Act} {Q : Exit → Act → World → Prop} (hgd : op.guard = none) (ty : TypeId) (x : Operand) (ho : op.op = .load ty x)
    (ad : Addr) (hx : a.eval x = .pointer (some ad)) (cs : List Value) (d : TypeDesc) (hc : ∀ j v, cs[j]? = some v → w.cell? (ad.add j) = some v)
    (hu : P.underlying ty = some d) (hd : d.isRow = true) (hi : (P.info? ty).map (·.size) = some cs.length)
    (h : wpList P ops Q rest (a.put op.dst (.agg cs.toArray)) w) : wpList P ops Q (op :: rest) a w :=
  wpList_plain hgd fun _ hK => wp_load_at ty x ho ad hx cs d hc hu hd hi (hK _ _ h)
end
theorem info_rec : (Tryz.prog.info? 52).map (fun i => (i.zero, i.size, i.bytes)) = some (some (.agg #[.int .u16 0, .int .u8 0, .bool false, .bool false, .bool false, .bool false, .bool false, .bool false, .bool false]), 9, 10) := by kernel_rfl
def recsL (l : List Sp.Rec) : List Value := l.flatMap fun r => r.cells.toList
theorem recsL_append (l k : List Sp.Rec) : recsL (l ++ k) = recsL l ++ recsL k := by simp [recsL]
theorem recsL_one (r : Sp.Rec) : recsL [r] = r.cells.toList := by simp [recsL]
theorem own_fk {B base n size : Nat} {v : Value} {xs : List Value} {e : TypeId} {w w' : World} (h : w.ownsRow base e size v n xs) (hF : Fk B w w') (he : ¬ Mach e) : w'.ownsRow base e size v n xs :=
  ⟨h.1, h.2.imp id (fun ⟨k, cap, cur, h1, h2, h3, h4⟩ => ⟨k, cap, cur, h1, h2, hF.block _ _ _ h3 he, h4⟩)⟩
theorem Fk.ownR {B n size : Nat} {v : Value} {xs : List Value} {e : TypeId} {w w1 w2 : World} (h : Fk B w w1) (ho : w1.ownsRow w.heap.size e size v n xs) (hg : w1.grownBy w2 v.ownBlock) : Fk B w w2 := by
  rcases ho.2 with ⟨hv, _⟩ | ⟨k, cap, cur, hv, h2, _⟩
  · rw [hv] at hg
    exact h.trans (Fk.fr (Fr.grown (X := fun _ => False) hg (by intro q e; cases e)) (fun q e => e.elim))
  · rw [hv] at hg
    exact h.own hg h2
theorem SysAt.grown0 {B N g gr : Nat} {s : Cpu} {m : Mem} {rom : Int} {w w' : World} (h : SysAt B N g gr s m rom w) (hg : w.grownBy w' none) : SysAt B N g gr s m rom w' := by
  obtain ⟨p, lv, pb, cs, hC, hR, hS⟩ := h; exact ⟨p, lv, pb, cs, hC.grown0 hg, hR.grown0 hg, hS⟩
theorem MachAt.ownG {B N h base n size : Nat} {s : Cpu} {m : Mem} {rom : Int} {v : Value} {xs : List Value} {w w' : World} (hM : MachAt B N h s m rom w) (ho : w.ownsRow base 52 size v n xs) (hg : w.grownBy w' v.ownBlock) : MachAt B N h s m rom w' := by
  obtain ⟨g, gr, hl, hS⟩ := hM
  rcases ho.2 with ⟨hv, _⟩ | ⟨k, cap, cur, hv, h2, h3, _⟩
  · rw [hv] at hg
    exact ⟨g, gr, LBlk.grown hl hg (by intro e; cases e), hS.grown0 hg⟩
  · rw [hv] at hg
    have h3' : Blk w k 52 _ := h3
    exact ⟨g, gr, LBlk.grown hl hg (fun e => Blk.ne_ hl h3' (by decide) (by injection e)), hS.other h3' (by decide) (by decide) (by decide) (by decide) (by decide) hg⟩
theorem own_ne_any {w : World} {base n size x : Nat} {v : Value} {xs : List Value} {e t : TypeId} {cs : Array Value} (h : w.ownsRow base e size v n xs) (hb : Blk w x t cs) (ht : t ≠ e) : some x ≠ v.ownBlock := by
  rcases h.2 with ⟨h1, _⟩ | ⟨k, cap, cur, h1, _, h3, _⟩
  · rw [h1]; intro hh; cases hh
  · rw [h1]; intro hh; injection hh with hh; exact Blk.ne_ hb h3 ht hh
def PinsIn (B n : Nat) (A : Option Addr) (ps : List Sp.Pins) (w : World) : Prop :=
  ∀ W, Fk B w W → ∀ k p, ps[k]? = some p → ∃ ad, A = some ad ∧ ∀ j v, [Value.bool p.reset, .bool p.nmi, .bool p.firq, .bool p.irq, .bool p.halt, .bool p.req][j]? = some v → W.cell? ((ad.add (k * 6)).add j) = some v
set_option maxRecDepth 100000 in
set_option maxHeartbeats 16000000 in
theorem mach_Run {B N h n c : Nat} {A : Option Addr} {s : Cpu} {m : Mem} {rom : Int} (ps : List Sp.Pins) (w : World) (hM : MachAt B N h s m rom w) (hI : s.core.Inv) (hk : s.kind = 0 ∨ s.kind = 1) (hBw : B ≤ w.heap.size) (hN : N + n ≤ 1000000) (hl : ps.length = n) (hps : PinsIn B n A ps w) :
    Calls Tryz.prog 14 #[.pointer (some ⟨h, 0, none⟩), .slice A n c] w fun e w' => (∃ v, e = .returned v ∧ w'.ownsRow w.heap.size 52 9 v n (recsL (runs rom ps s m).1)) ∧ MachAt B (N + n) h (runs rom ps s m).2.1 (runs rom ps s m).2.2 rom w' ∧ Fk B w w' := by
  obtain ⟨i0, hinf, hz0, hz1, hz2⟩ := info_parts info_rec
  have HPS := Lib.hid hps
  have HI := Lib.hid hI
  have HK := Lib.hid hk
  have HM := Lib.hid hM
  clear hps hI hk hM
  go_enter Tryz.func14, Tryz.ntmps14
  go_wp2_with fail
  go_loopw [5, 10] (fun v i wr => ∃ k : Nat, k ≤ n ∧ i = .int .i64 k ∧ wr.ownsRow w.heap.size 52 9 v k (recsL (runs rom (ps.take k) s m).1) ∧ MachAt B (N + k) h (runs rom (ps.take k) s m).2.1 (runs rom (ps.take k) s m).2.2 rom wr ∧ Fk B w wr) (fun _ i _ => n - (intOf i).toNat)
  case atStart => exact ⟨0, by omega, rfl, own_nil _ _ _ _, HM.out, Fk.refl _⟩
  case round =>
    obtain ⟨k, hkn, rfl, hown, hMk, hFk⟩ := hrel
    by_cases hlt : k < n
    · have hlt' : (k : Int) < (n : Int) := by omega
      obtain ⟨⟨pr, pn, pf, pi, ph, pq⟩, hp⟩ : ∃ p, ps[k]? = some p := ⟨_, List.getElem?_eq_getElem (by omega)⟩
      obtain ⟨ad, rfl, hcw⟩ := HPS.out _ hFk k _ hp
      dsimp only at hcw
      have HTK := Lib.hid (show ps.take (k + 1) = ps.take k ++ [⟨pr, pn, pf, pi, ph, pq⟩] from by rw [List.take_add_one, hp]; rfl)
      have HSN := Lib.hid (runs_snoc rom (ps.take k) ⟨pr, pn, pf, pi, ph, pq⟩ s m)
      have hIk := runs_inv rom (ps.take k) m HI.out
      have hKk := runs_kind rom (ps.take k) s m
      have hLk := runs_len rom (ps.take k) s m
      generalize runs rom (ps.take k) s m = Y at *
      obtain ⟨rs, sk, mk⟩ := Y
      dsimp only at *
      have hKk2 : sk.kind = 0 ∨ sk.kind = 1 := hKk ▸ HK.out
      have hBr : B ≤ wr.heap.size := Nat.le_trans hBw hFk.size
      have hMd : MachAt B (N + k) h sk mk rom ((wr.alloc (.cells #[.bool pr, .bool pn, .bool pf, .bool pi, .bool ph, .bool pq] 48)).drew) := (hMk.below (below_alloc (Below.refl _ _) _)).below (Below.refl _ _).drew
      have HC := mach_tick ⟨pr, pn, pf, pi, ph, pq⟩ ((wr.alloc (.cells #[.bool pr, .bool pn, .bool pf, .bool pi, .bool ph, .bool pq] 48)).drew) hMd hIk hKk2 (by simp; omega) (by omega)
      obtain ⟨⟨⟨r0, r1, r2, r3, r4, r5, r6, r7, r8⟩, c9, m9⟩, hX⟩ : ∃ X, sk.cycle ⟨pr, pn, pf, pi, ph, pq⟩ mk rom = X := ⟨_, rfl⟩
      rw [hX] at HC
      have HX := Lib.hid hX
      have HCh := Lib.hid HC
      have hownd : ((wr.alloc (.cells #[.bool pr, .bool pn, .bool pf, .bool pi, .bool ph, .bool pq] 48)).drew).ownsRow w.heap.size 52 9 u5 k (recsL rs) := World.ownsRow.drew (World.ownsRow.alloc (w := wr) hown _)
      have hBX : LBlk ((wr.alloc (.cells #[.bool pr, .bool pn, .bool pf, .bool pi, .bool ph, .bool pq] 48)).drew) wr.heap.size 48 [.bool pr, .bool pn, .bool pf, .bool pi, .bool ph, .bool pq] := LBlk.drew (Blk.newAt wr 48 _ wr.heap.size rfl)
      have hKP := Lib.hid (fun (w1 w3 : World) (v : Value) (n : Nat) (xs : List Value) (o : Obj) (hb : LBlk w1 wr.heap.size 48 [.bool pr, .bool pn, .bool pf, .bool pi, .bool ph, .bool pq]) (ho : w1.ownsRow w.heap.size 52 9 v n xs) (hg : (w1.alloc o).grownBy w3 v.ownBlock) => LBlk.grown (LBlk.alloc hb o) hg (own_ne_any (World.ownsRow.alloc (w := w1) ho o) (LBlk.alloc hb o) (by decide)))
      have hFd : Fk B w ((wr.alloc (.cells #[.bool pr, .bool pn, .bool pf, .bool pi, .bool ph, .bool pq] 48)).drew) := hFk.trans (Fk.below (below_alloc (Below.refl _ _) _).drew)
      have hone : ∀ u ∈ [Value.int .u16 (r0.toNat : Int), .int .u8 (r1.toNat : Int), .bool r2, .bool r3, .bool r4, .bool r5, .bool r6, .bool r7, .bool r8], u.oneCell' = true := by simp [Value.oneCell']
      have hhl := hMk.lt
      clear HC hX hMk hMd hown hIk hKk hKk2
      go_wp2_with (with_reducible refine wpList_load_at rfl 48 (.tmp 12) rfl (ad.add (k * 6)) rfl _ _ hcw Tryz.underlying48 rfl (by kernel_rfl) ?_)
      go_region_held3 (fun W => W.cell? ⟨wr.heap.size, 0, none⟩ = some (.bool pr) ∧ W.cell? ⟨wr.heap.size, 1, none⟩ = some (.bool pn) ∧ W.cell? ⟨wr.heap.size, 2, none⟩ = some (.bool pf) ∧ W.cell? ⟨wr.heap.size, 3, none⟩ = some (.bool pi) ∧ W.cell? ⟨wr.heap.size, 4, none⟩ = some (.bool ph) ∧ W.cell? ⟨wr.heap.size, 5, none⟩ = some (.bool pq)) (first | with_reducible exact ⟨y0, y1, y2, y3, y4, y5⟩ | (go_keep; done)) (first | (go_at_call 24; refine HCh.out.mono ?_; rintro e w1 ⟨rfl, hM1, hF1⟩; have hown1 := own_fk hownd hF1 nm_rec; have hFw1 := hFd.trans hF1; have hs1 := hFw1.size; have hBE := hF1.lblk hBX nm_pins; have y0 := LBlk.cell hBE 0; have y1 := LBlk.cell hBE 1; have y2 := LBlk.cell hBE 2; have y3 := LBlk.cell hBE 3; have y4 := LBlk.cell hBE 4; have y5 := LBlk.cell hBE 5; simp only [List.getElem?_cons_zero, List.getElem?_cons_succ] at y0 y1 y2 y3 y4 y5; have hlb := LBlk.lt hBE) | (refine step_append_any _ rfl (.tmp 14) (.tmp 20) 59 rfl w.heap.size 52 i0 (.agg #[.int .u16 0, .int .u8 0, .bool false, .bool false, .bool false, .bool false, .bool false, .bool false, .bool false]) 9 10 Tryz.underlying59 hinf hz0 hz1 hz2 rfl (by omega) u5 k (recsL rs) rfl (World.ownsRow.alloc (w := w1) hown1 _) (w1.heap.size + 1) (some ⟨w1.heap.size, 0, none⟩) 1 1 [Value.int .u16 (r0.toNat : Int), .int .u8 (r1.toNat : Int), .bool r2, .bool r3, .bool r4, .bool r5, .bool r6, .bool r7, .bool r8] rfl (Reads.newS w1 _ (Array.mk [Value.int .u16 (r0.toNat : Int), .int .u8 (r1.toNat : Int), .bool r2, .bool r3, .bool r4, .bool r5, .bool r6, .bool r7, .bool r8]) 1 9 _ rfl (Nat.lt_succ_self _)) hone (by simp only [maxLen]; omega) (by omega) (Nat.le_trans hs1 (by simp)) ?_; intro v1 w3 hown3 hg3 hat3; have hB3 : LBlk w3 wr.heap.size 48 [.bool pr, .bool pn, .bool pf, .bool pi, .bool ph, .bool pq] := hKP.out _ _ _ _ _ _ hBE hown1 hg3; have y0 := LBlk.cell hB3 0; have y1 := LBlk.cell hB3 1; have y2 := LBlk.cell hB3 2; have y3 := LBlk.cell hB3 3; have y4 := LBlk.cell hB3 4; have y5 := LBlk.cell hB3 5; simp only [List.getElem?_cons_zero, List.getElem?_cons_succ] at y0 y1 y2 y3 y4 y5))
      all_goals
        have hM3 := MachAt.ownG (hM1.below (below_alloc (Below.refl _ _) (.cells (Array.mk [Value.int .u16 (r0.toNat : Int), .int .u8 (r1.toNat : Int), .bool r2, .bool r3, .bool r4, .bool r5, .bool r6, .bool r7, .bool r8]) 52))) (World.ownsRow.alloc (w := w1) hown1 _) hg3
        have hF3 := Fk.ownR (hFw1.trans (Fk.below (below_alloc (Below.refl _ _) (.cells (Array.mk [Value.int .u16 (r0.toNat : Int), .int .u8 (r1.toNat : Int), .bool r2, .bool r3, .bool r4, .bool r5, .bool r6, .bool r7, .bool r8]) 52)))) (World.ownsRow.alloc (w := w1) hown1 _) hg3
        clear hM1 hF1 hown1 hFw1 hg3 hat3 hcw hownd hFd
        go_wp2
        go_roundw
        case rel =>
          refine ⟨k + 1, by omega, by go_num, ?_, ?_, hF3⟩
          · rw [HTK.out, HSN.out, HX.out, recsL_append, recsL_one]
            exact hown3
          · rw [HTK.out, HSN.out, HX.out]
            exact hM3
        case measure => simp [intOf]; omega
    · obtain rfl : k = n := by omega
      have hall : ps.take k = ps := List.take_of_length_le (by omega)
      rw [hall] at hown hMk
      clear hall
      go_wp2
      go_ret
      exact ⟨⟨_, rfl, hown⟩, hMk, hFk⟩
end Go.Proofs.YtkdaphkpllgmbaaGreat
namespace Go.Proofs.YtkdaphkpllgmbaaGreat
open Go.RowKit Sp
set_option linter.unusedVariables false
set_option linter.unusedSimpArgs false
attribute [local go_sem] Sp.Pins.v Sp.Rec.v Sp.Rec.cells Sp.noPins
theorem idle_kind (rom : Int) (c : Cpu) (m : Mem) (k : Nat) : (idle rom c m k).1.kind = c.kind := by
  induction k with
  | zero => rfl
  | succ k ih => show ((idle rom c m k).1.cycle noPins (idle rom c m k).2 rom).2.1.kind = _; rw [cycle_kind]; exact ih
set_option maxRecDepth 100000 in
set_option maxHeartbeats 8000000 in
theorem mach_Step {B N h L : Nat} {s : Cpu} {m : Mem} {rom : Int} (w : World) (hM : MachAt B N h s m rom w) (hI : s.core.Inv) (hk : s.kind = 0 ∨ s.kind = 1) (hBw : B ≤ w.heap.size) (hN : N + L ≤ 1000000) (hm : s.mode = 0) (hS : Sp.StepsIn rom s m L) :
    Calls Tryz.prog 37 #[.pointer (some ⟨h, 0, none⟩)] w fun e w' => e = .returned (.tuple #[.int .i64 (L : Int), .bool true]) ∧ MachAt B (N + L) h (idle rom s m L).1 (idle rom s m L).2 rom w' ∧ Fk B w w' := by
  have HW := mach_waits w hM
  rw [hm] at HW
  have HW2 := Lib.hid HW
  have HI := Lib.hid hI
  have HK := Lib.hid hk
  have HM := Lib.hid hM
  have hpos := hS.pos
  clear hI hk hM HW
  go_enter Tryz.func37, Tryz.ntmps37
  go_wp2_with fail
  refine HW2.out.mono ?_
  rintro e w1 ⟨rfl, rfl⟩
  go_wp2_with fail
  go_loopw [4] (fun i wr => ∃ k : Nat, k < L ∧ i = .int .i64 ((k + 1 : Nat) : Int) ∧ MachAt B (N + k) h (idle rom s m k).1 (idle rom s m k).2 rom wr ∧ Fk B w wr) (fun i _ => L + 1 - (intOf i).toNat)
  case atStart => exact ⟨0, hpos, rfl, HM.out, Fk.refl _⟩
  case round =>
    obtain ⟨k, hkn, rfl, hMk, hFk⟩ := hrel
    have hmine : ((idle rom s m k).1.cycle noPins (idle rom s m k).2 rom).1.mine = true := hS.mine k hkn
    have hnx := Lib.hid (fun h : k + 1 < L => hS.under k h)
    have hend := Lib.hid (fun h : k + 1 = L => show (idle rom s m (k + 1)).1.mode = 0 from h ▸ hS.at_)
    have HID := Lib.hid (show idle rom s m (k + 1) = ((idle rom s m k).1.cycle noPins (idle rom s m k).2 rom).2 from rfl)
    have hIk := idle_inv (rom := rom) (m := m) HI.out k
    have hKk : (idle rom s m k).1.kind = 0 ∨ (idle rom s m k).1.kind = 1 := (idle_kind rom s m k) ▸ HK.out
    generalize hZ0 : idle rom s m (k + 1) = Z at *
    generalize idle rom s m k = Y at *
    obtain ⟨sk, mk⟩ := Y
    dsimp only at *
    have HC := mach_tick noPins wr hMk hIk hKk (Nat.le_trans hBw hFk.size) (by omega)
    obtain ⟨⟨⟨r0, r1, r2, r3, r4, r5, r6, r7, r8⟩, c9, m9⟩, hX⟩ : ∃ X, sk.cycle noPins mk rom = X := ⟨_, rfl⟩
    rw [hX] at HC hmine
    obtain rfl : r8 = true := hmine
    have HZ := HID.out
    rw [hX] at HZ
    subst HZ
    have HZE := Lib.hid (show idle rom s m (k + 1) = (c9, m9) from hZ0)
    clear hZ0
    have hfld : ∀ W : World, (Instr.field 52 (.agg #[.int .u16 (r0.toNat : Int), .int .u8 (r1.toNat : Int), .bool r2, .bool r3, .bool r4, .bool r5, .bool r6, .bool r7, .bool true]) 8).run Tryz.prog W = .ok (.bool true) W := fun _ => by kernel_rfl
    have HCh := Lib.hid HC
    clear HC hX HID
    go_wp2_with fail
    refine HCh.out.mono ?_
    rintro e w1 ⟨rfl, hM1, hF1⟩
    have hF1w := hFk.trans hF1
    have HMO := mach_Mode w1 hM1
    have HWA := mach_waits w1 hM1
    by_cases hlt : k + 1 < L
    · rw [show c9.mode = 1 from hnx.out hlt] at HMO HWA
      have HMOh := Lib.hid HMO
      have HWAh := Lib.hid HWA
      clear HMO HWA
      go_wp2_with fail
      refine HMOh.out.mono ?_
      rintro e w2 ⟨rfl, rfl⟩
      go_wp2_with fail
      refine HWAh.out.mono ?_
      rintro e w2 ⟨rfl, rfl⟩
      have hwr : IntKind.i64.wrap (((k + 1 : Nat) : Int) + 1) = ((k + 1 + 1 : Nat) : Int) := by unfold IntKind.wrap; simp [IntKind.signed, IntKind.bits]; omega
      go_wp2
      go_roundw
      case rel => exact ⟨k + 1, hlt, by first | rfl | go_num, by rw [HZE.out]; exact hM1, hF1w⟩
      case measure => simp [intOf]; omega
    · have hL : k + 1 = L := by omega
      rw [show c9.mode = 0 from hend.out hL] at HMO
      have HMOh := Lib.hid HMO
      clear HMO HWA
      go_wp2_with fail
      refine HMOh.out.mono ?_
      rintro e w2 ⟨rfl, rfl⟩
      go_wp2
      go_ret2
      subst hL
      exact ⟨rfl, by rw [HZE.out]; exact hM1, hF1w⟩
set_option maxRecDepth 100000 in
set_option maxHeartbeats 8000000 in
theorem mach_Steps2 {B N h a b : Nat} {s : Cpu} {m : Mem} {rom : Int} (w : World) (hM : MachAt B N h s m rom w) (hI : s.core.Inv) (hk : s.kind = 0 ∨ s.kind = 1) (hBw : B ≤ w.heap.size) (hN : N + a + b ≤ 1000000) (hm : s.mode = 0) (hS : Sp.StepsIn rom s m a) (hS2 : Sp.StepsIn rom (Sp.idle rom s m a).1 (Sp.idle rom s m a).2 b) :
    Calls Tryz.prog 28 #[.pointer (some ⟨h, 0, none⟩), .int .i64 2] w fun e w' => e = .returned (.tuple #[.int .i64 2, .int .i64 (((a + b : Nat) : Int))]) ∧ MachAt B (N + a + b) h (Sp.idle rom (Sp.idle rom s m a).1 (Sp.idle rom s m a).2 b).1 (Sp.idle rom (Sp.idle rom s m a).1 (Sp.idle rom s m a).2 b).2 rom w' ∧ Fk B w w' := by
  have hI1 := idle_inv (rom := rom) (m := m) hI a
  have hk1 : (Sp.idle rom s m a).1.kind = 0 ∨ (Sp.idle rom s m a).1.kind = 1 := (idle_kind rom s m a) ▸ hk
  have hm1 := hS.at_
  have H0 := Lib.hid (fun W (h0 : MachAt B N h s m rom W) (hb : B ≤ W.heap.size) => mach_Step (L := a) W h0 hI hk hb (by omega) hm hS)
  generalize Sp.idle rom s m a = Y at *
  obtain ⟨s1, m1⟩ := Y
  dsimp only at *
  have H1 := Lib.hid (fun W (h0 : MachAt B (N + a) h s1 m1 rom W) (hb : B ≤ W.heap.size) => mach_Step (L := b) W h0 hI1 hk1 hb (by omega) hm1 hS2)
  generalize Sp.idle rom s1 m1 b = Y at *
  obtain ⟨s2, m2⟩ := Y
  dsimp only at *
  have HM := Lib.hid hM
  clear hM hI hk hm hS hS2 hI1 hk1 hm1
  go_enter Tryz.func28, Tryz.ntmps28
  go_wp2_with fail
  go_loopw [6, 12] (fun v i wr => ((i = .int .i64 0 ∧ v = .int .i64 0 ∧ MachAt B N h s m rom wr) ∨ (i = .int .i64 1 ∧ v = .int .i64 (a : Int) ∧ MachAt B (N + a) h s1 m1 rom wr) ∨ (i = .int .i64 2 ∧ v = .int .i64 ((a + b : Nat) : Int) ∧ MachAt B (N + a + b) h s2 m2 rom wr)) ∧ Fk B w wr) (fun _ i _ => 3 - (intOf i).toNat)
  case atStart => exact ⟨.inl ⟨rfl, rfl, HM.out⟩, Fk.refl _⟩
  case round =>
    obtain ⟨⟨rfl, rfl, hMk⟩ | ⟨rfl, rfl, hMk⟩ | ⟨rfl, rfl, hMk⟩, hFk⟩ := hrel
    · go_wp2_with fail
      refine (H0.out _ hMk (Nat.le_trans hBw hFk.size)).mono ?_
      rintro e w1 ⟨rfl, hM1, hF1⟩
      have hFw := hFk.trans hF1
      have hwr : IntKind.i64.wrap (a : Int) = (a : Int) := by unfold IntKind.wrap; simp [IntKind.signed, IntKind.bits]; omega
      go_wp2
      go_roundw
      case rel => exact ⟨.inr (.inl ⟨by first | rfl | go_num, by first | rfl | go_num, hM1⟩), hFw⟩
      case measure => simp [intOf]
    · go_wp2_with fail
      refine (H1.out _ hMk (Nat.le_trans hBw hFk.size)).mono ?_
      rintro e w1 ⟨rfl, hM1, hF1⟩
      have hFw := hFk.trans hF1
      have hwr : IntKind.i64.wrap ((a : Int) + (b : Int)) = ((a + b : Nat) : Int) := by unfold IntKind.wrap; simp [IntKind.signed, IntKind.bits]; omega
      go_wp2
      go_roundw
      case rel => exact ⟨.inr (.inr ⟨by first | rfl | go_num, by first | rfl | go_num, hM1⟩), hFw⟩
      case measure => simp [intOf]
    · go_wp2
      go_ret2
      exact ⟨rfl, hMk, hFk⟩
end Go.Proofs.YtkdaphkpllgmbaaGreat
namespace Go.Proofs.YtkdaphkpllgmbaaGreat
open Go.RowKit Sp
set_option linter.unusedVariables false
set_option linter.unusedSimpArgs false
attribute [local go_sem] Sp.Regs.v Sp.Regs.cells
theorem mem0_eq : updL (fun _ => 0) 0 [134, 5, 183, 1, 0] = Sp.mem0 := by
  funext k
  unfold updL Sp.mem0
  by_cases h : k < 5
  · have h5 : k = 0 ∨ k = 1 ∨ k = 2 ∨ k = 3 ∨ k = 4 := by omega
    rcases h5 with rfl | rfl | rfl | rfl | rfl <;> rfl
  · rw [if_neg (by simp; omega), if_neg (by omega), if_neg (by omega), if_neg (by omega), if_neg (by omega)]
set_option maxRecDepth 100000 in
set_option maxHeartbeats 8000000 in
theorem works_t (w : World) : Calls Tryz.prog 13 #[] w fun e w' => e = .returned (.bool true) ∧ Below w.heap.size w w' := by
  have hI0 := Cpu.new_inv 0
  have hb0 : Below w.heap.size w (w.alloc (.cells #[.int .u8 134, .int .u8 5, .int .u8 183, .int .u8 1, .int .u8 0] 5)) := below_alloc (Below.refl _ _) _
  have hrd : Reads (w.alloc (.cells #[.int .u8 134, .int .u8 5, .int .u8 183, .int .u8 1, .int .u8 0] 5)) (w.alloc (.cells #[.int .u8 134, .int .u8 5, .int .u8 183, .int .u8 1, .int .u8 0] 5)).heap.size 1 (some ⟨w.heap.size, 0, none⟩) 5 (bytesV [134, 5, 183, 1, 0]) := Reads.new1 w 5 _ 5 _ rfl (by simp)
  have HN := Lib.hid (machNew w.heap.size 0 65536 (.inl rfl) (by omega) (by omega) [134, 5, 183, 1, 0] _ 5 5 _ hrd (by omega) hb0.size)
  rw [mem0_eq] at HN
  have W1 := work_1
  have W2 := work_2
  unfold work1 at W2
  go_enter Tryz.func13, Tryz.ntmps13
  go_wp2_with fail
  generalize w.alloc (.cells #[.int .u8 134, .int .u8 5, .int .u8 183, .int .u8 1, .int .u8 0] 5) = w0 at *
  refine HN.out.mono ?_
  rintro e w1 ⟨⟨h, rfl, hM1⟩, hb1⟩
  have hbw1 := below_then hb0 hb1
  have hs1 := hbw1.size
  have HS := Lib.hid (mach_Steps2 (a := 2) (b := 5) w1 hM1 hI0 (.inl rfl) hs1 (by omega) rfl W1 W2)
  obtain ⟨g, gr, hl, hY⟩ := id hM1
  have HRM := Lib.hid (mach_Ram w1 hl)
  clear hrd HN hl hY W1 W2
  go_wp2_with fail
  refine HRM.out.mono ?_
  rintro e w2 ⟨rfl, rfl⟩
  go_wp2_with fail
  refine HS.out.mono ?_
  rintro e w3 ⟨rfl, hM3, hF3⟩
  have hbw3 := hbw1.trans (hF3.to_below hs1)
  have hmem : (idle 65536 (idle 65536 (Cpu.new 0) mem0 2).1 (idle 65536 (Cpu.new 0) mem0 2).2 5).2 256 = 5 := work_mem
  have hpc : (idle 65536 (idle 65536 (Cpu.new 0) mem0 2).1 (idle 65536 (Cpu.new 0) mem0 2).2 5).1.now.pc = 5 := work_pc
  generalize idle 65536 (idle 65536 (Cpu.new 0) mem0 2).1 (idle 65536 (Cpu.new 0) mem0 2).2 5 = Y at *
  obtain ⟨s3, m3⟩ := Y
  dsimp only at *
  obtain ⟨g3, gr3, hl3, p3, lv3, pb3, cs3, hC3, hR3, hS3⟩ := id hM3
  have HRM3 := Lib.hid (mach_Ram w3 hl3)
  have HRD3 := Read_w 256 w3 hR3
  rw [show m3 (256 : UInt16).toNat = 5 from hmem] at HRD3
  have HRD := Lib.hid HRD3
  have HM3 := Lib.hid hM3
  clear hM3 hl3 hC3 hR3 hS3 HRD3 hM1 HRM HS hF3
  go_wp2_with fail
  refine HRM3.out.mono ?_
  rintro e w4 ⟨rfl, rfl⟩
  go_wp2_with fail
  refine HRD.out.mono ?_
  rintro e w4 ⟨rfl, hb4⟩
  have hbw4 := below_then hbw3 hb4
  have HRG := Lib.hid (mach_Regs w4 (HM3.out.below hb4))
  obtain ⟨⟨ka, la, md, rw3, kn, ⟨ra, rb, rdp, rcc, rx, ry, ru, rs, rpc⟩, co⟩, hs3⟩ : ∃ z : Cpu, s3 = z := ⟨_, rfl⟩
  have hp5 : rpc = 5 := by rw [hs3] at hpc; exact hpc
  rw [hs3] at HRG
  subst hp5
  have hfld : ∀ W : World, (Instr.field 39 (.agg #[.int .u8 (ra.toNat : Int), .int .u8 (rb.toNat : Int), .int .u8 (rdp.toNat : Int), .int .u8 (rcc.toNat : Int), .int .u16 (rx.toNat : Int), .int .u16 (ry.toNat : Int), .int .u16 (ru.toNat : Int), .int .u16 (rs.toNat : Int), .int .u16 5]) 8).run Tryz.prog W = .ok (.int .u16 5) W := fun _ => by kernel_rfl
  have HF := Lib.hid hfld
  clear hpc hmem hfld
  go_wp2_with fail
  refine HRG.out.mono ?_
  rintro e w5 ⟨rfl, hb5⟩
  have hbw5 := below_then hbw4 hb5
  have hfld := HF.out
  go_wp2
  go_ret
  exact ⟨rfl, hbw5⟩
end Go.Proofs.YtkdaphkpllgmbaaGreat
namespace Go.Proofs.YtkdaphkpllgmbaaGreat
open Go.RowKit Sp
set_option linter.unusedVariables false
set_option linter.unusedSimpArgs false
set_option maxRecDepth 100000 in
set_option maxHeartbeats 2000000 in
theorem CloneB_any (xs : List UInt8) (A : Option Addr) (n c B : Nat) (w : World) (hr : Reads w B 1 A n (bytesV xs)) (hB : B ≤ w.heap.size) (hn : n ≤ 4294967296) :
    Calls Tryz.prog 38 #[.slice A n c] w fun e w' => ∃ v, e = .returned v ∧ w'.ownsRow w.heap.size 5 1 v n (bytesV xs) ∧ Below w.heap.size w w' := by
  obtain ⟨i0, hi, hz0, hz1, hz2⟩ := info_parts info_u8
  rcases A with _ | ad
  · obtain rfl : n = 0 := by
      rcases Nat.eq_zero_or_pos n with h | h
      · exact h
      · obtain ⟨ad, e, _⟩ := hr.2 h
        cases e
    have hx : bytesV xs = [] := List.eq_nil_of_length_eq_zero (by simpa using hr.1)
    rw [hx]
    have he : ∀ W : World, (binOp .eql 24 (.slice none 0 c) (.slice none 0 0)).run Tryz.prog W = .ok (.bool true) W := fun _ => rfl
    go_enter Tryz.func38, Tryz.ntmps38
    go_wp2
    go_ret
    exact ⟨_, rfl, own_nil _ _ _ _, Below.refl _ _⟩
  · have hone := bytesV_one xs
    have he : ∀ W : World, (binOp .eql 24 (.slice (some ad) n c) (.slice none 0 0)).run Tryz.prog W = .ok (.bool false) W := fun _ => rfl
    have hr' : Reads (w.alloc (.cells #[] 5)) B 1 (some ad) n (bytesV xs) := hr.keep fun p hp => Below.cell (B := w.heap.size) ((Below.refl _ w).alloc (Nat.le_refl _) _) (by omega)
    have hown : (w.alloc (.cells #[] 5)).ownsRow w.heap.size 5 1 (.slice (some ⟨w.heap.size, 0, none⟩) 0 0) 0 [] := World.ownsRow_made w #[] 0 (Nat.le_refl _) (by simp [maxLen]) rfl
    go_enter Tryz.func38, Tryz.ntmps38
    go_wp2_with (first | (at_builtin; refine wpList_append_any _ rfl (.tmp 5) (.tmp 6) 24 rfl w.heap.size 5 i0 (.int .u8 0) 1 1 Tryz.underlying24 hi hz0 hz1 hz2 rfl (by omega) _ 0 [] rfl hown B (some ad) n c (bytesV xs) rfl hr' hone (by simp only [maxLen]; omega) (by omega) (by simp) ?_; intro v1 w1 hown1 hg1 hat1))
    go_ret
    refine ⟨_, rfl, by simpa using hown1, below_own ((Below.refl _ w).alloc (Nat.le_refl _) _) hown hg1 (by simp)⟩

def stL (s : Cpu) (v : Value) : List Value := [.int .i64 s.mode, .int .i64 s.row, v, .int .u8 (s.now.a.toNat : Int), .int .u8 (s.now.b.toNat : Int), .int .u8 (s.now.dp.toNat : Int), .int .u8 (s.now.cc.toNat : Int), .int .u16 (s.now.x.toNat : Int), .int .u16 (s.now.y.toNat : Int), .int .u16 (s.now.u.toNat : Int), .int .u16 (s.now.s.toNat : Int), .int .u16 (s.now.pc.toNat : Int), .bool s.latch.level, .bool s.latch.armed, .bool s.latch.set, .int .i64 s.arb.phase, .int .i64 s.arb.count]
attribute [local go_sem] stL
section
variable {w : World} {h : Nat} {t : TypeId} {x0 x1 x2 x3 x4 x5 x6 x7 x8 x9 x10 x11 x12 x13 x14 x15 x16 : Value}
set_option maxHeartbeats 4000000 in
theorem row17 (B : LBlk w h t [x0, x1, x2, x3, x4, x5, x6, x7, x8, x9, x10, x11, x12, x13, x14, x15, x16]) (a0 a1 a2 a3 a4 a5 a6 a7 a8 a9 a10 a11 a12 a13 a14 a15 a16 : Value) : LBlk (((((((((((((((((w.setCell ⟨h, 0, none⟩ a0).setCell ⟨h, 1, none⟩ a1).setCell ⟨h, 2, none⟩ a2).setCell ⟨h, 3, none⟩ a3).setCell ⟨h, 4, none⟩ a4).setCell ⟨h, 5, none⟩ a5).setCell ⟨h, 6, none⟩ a6).setCell ⟨h, 7, none⟩ a7).setCell ⟨h, 8, none⟩ a8).setCell ⟨h, 9, none⟩ a9).setCell ⟨h, 10, none⟩ a10).setCell ⟨h, 11, none⟩ a11).setCell ⟨h, 12, none⟩ a12).setCell ⟨h, 13, none⟩ a13).setCell ⟨h, 14, none⟩ a14).setCell ⟨h, 15, none⟩ a15).setCell ⟨h, 16, none⟩ a16) h t [a0, a1, a2, a3, a4, a5, a6, a7, a8, a9, a10, a11, a12, a13, a14, a15, a16] := (((((((((((((((((B.set_ 0 a0).set_ 1 a1).set_ 2 a2).set_ 3 a3).set_ 4 a4).set_ 5 a5).set_ 6 a6).set_ 7 a7).set_ 8 a8).set_ 9 a9).set_ 10 a10).set_ 11 a11).set_ 12 a12).set_ 13 a13).set_ 14 a14).set_ 15 a15).set_ 16 a16)
theorem bel17 {C : Nat} {u : World} (hb : Below C u w) (hx : C ≤ h) (a0 a1 a2 a3 a4 a5 a6 a7 a8 a9 a10 a11 a12 a13 a14 a15 a16 : Value) : Below C u (((((((((((((((((w.setCell ⟨h, 0, none⟩ a0).setCell ⟨h, 1, none⟩ a1).setCell ⟨h, 2, none⟩ a2).setCell ⟨h, 3, none⟩ a3).setCell ⟨h, 4, none⟩ a4).setCell ⟨h, 5, none⟩ a5).setCell ⟨h, 6, none⟩ a6).setCell ⟨h, 7, none⟩ a7).setCell ⟨h, 8, none⟩ a8).setCell ⟨h, 9, none⟩ a9).setCell ⟨h, 10, none⟩ a10).setCell ⟨h, 11, none⟩ a11).setCell ⟨h, 12, none⟩ a12).setCell ⟨h, 13, none⟩ a13).setCell ⟨h, 14, none⟩ a14).setCell ⟨h, 15, none⟩ a15).setCell ⟨h, 16, none⟩ a16) := (((((((((((((((((hb.setCell (p := ⟨h, 0, none⟩) hx a0).setCell (p := ⟨h, 1, none⟩) hx a1).setCell (p := ⟨h, 2, none⟩) hx a2).setCell (p := ⟨h, 3, none⟩) hx a3).setCell (p := ⟨h, 4, none⟩) hx a4).setCell (p := ⟨h, 5, none⟩) hx a5).setCell (p := ⟨h, 6, none⟩) hx a6).setCell (p := ⟨h, 7, none⟩) hx a7).setCell (p := ⟨h, 8, none⟩) hx a8).setCell (p := ⟨h, 9, none⟩) hx a9).setCell (p := ⟨h, 10, none⟩) hx a10).setCell (p := ⟨h, 11, none⟩) hx a11).setCell (p := ⟨h, 12, none⟩) hx a12).setCell (p := ⟨h, 13, none⟩) hx a13).setCell (p := ⟨h, 14, none⟩) hx a14).setCell (p := ⟨h, 15, none⟩) hx a15).setCell (p := ⟨h, 16, none⟩) hx a16)
end
set_option maxRecDepth 100000 in
set_option maxHeartbeats 8000000 in
theorem cpu_State {B N g p : Nat} {lv : Value} {s : Cpu} (w : World) (hC : CpuIn B N g p lv s w) (hBw : B ≤ w.heap.size) (hN : N ≤ 1000000) :
    Calls Tryz.prog 31 #[.pointer (some ⟨g, 0, none⟩)] w fun e w' => (∃ A n c, e = .returned (.agg (stL s (.slice A n c)).toArray)) ∧ Below w.heap.size w w' := by
  obtain ⟨n, xs, ho, hn⟩ := hC.log
  obtain ⟨A, c, rfl, hr, _, _⟩ := own_reads ho
  have hb0 : Below w.heap.size w (w.alloc (.cells #[.int .i64 0, .int .i64 0, .slice none 0 0, .int .u8 0, .int .u8 0, .int .u8 0, .int .u8 0, .int .u16 0, .int .u16 0, .int .u16 0, .int .u16 0, .int .u16 0, .bool false, .bool false, .bool false, .int .i64 0, .int .i64 0] 69)) := below_alloc (Below.refl _ _) _
  have hA0 : LBlk (w.alloc (.cells #[.int .i64 0, .int .i64 0, .slice none 0 0, .int .u8 0, .int .u8 0, .int .u8 0, .int .u8 0, .int .u16 0, .int .u16 0, .int .u16 0, .int .u16 0, .int .u16 0, .bool false, .bool false, .bool false, .int .i64 0, .int .i64 0] 69)) w.heap.size 69 [.int .i64 0, .int .i64 0, .slice none 0 0, .int .u8 0, .int .u8 0, .int .u8 0, .int .u8 0, .int .u16 0, .int .u16 0, .int .u16 0, .int .u16 0, .int .u16 0, .bool false, .bool false, .bool false, .int .i64 0, .int .i64 0] := Blk.newAt w _ _ w.heap.size rfl
  have hC0 := hC.alloc (.cells #[.int .i64 0, .int .i64 0, .slice none 0 0, .int .u8 0, .int .u8 0, .int .u8 0, .int .u8 0, .int .u16 0, .int .u16 0, .int .u16 0, .int .u16 0, .int .u16 0, .bool false, .bool false, .bool false, .int .i64 0, .int .i64 0] 69)
  have hrd : Reads (w.alloc (.cells #[.int .i64 0, .int .i64 0, .slice none 0 0, .int .u8 0, .int .u8 0, .int .u8 0, .int .u8 0, .int .u16 0, .int .u16 0, .int .u16 0, .int .u16 0, .int .u16 0, .bool false, .bool false, .bool false, .int .i64 0, .int .i64 0] 69)).drew w.heap.size 1 A n (bytesV xs) := hr.below hb0.drew
  have hgw := hC.lt
  clear hC ho hr
  go_enter Tryz.func31, Tryz.ntmps31
  go_upto_region 1 with fail
  generalize w.alloc (.cells #[.int .i64 0, .int .i64 0, .slice none 0 0, .int .u8 0, .int .u8 0, .int .u8 0, .int .u8 0, .int .u16 0, .int .u16 0, .int .u16 0, .int .u16 0, .int .u16 0, .bool false, .bool false, .bool false, .int .i64 0, .int .i64 0] 69) = w0 at *
  have hCd := Lib.hid hC0.below_drew
  have hAd := Lib.hid (LBlk.drew hA0)
  have hbd := Lib.hid hb0.drew
  have hrdh := Lib.hid hrd
  have hs0 := hb0.size
  have HCL := Lib.hid (fun W (h : Reads W w.heap.size 1 A n (bytesV xs)) (hb : w.heap.size ≤ W.heap.size) => CloneB_any xs A n c w.heap.size W h hb (by omega))
  have F0 := cpu_facts hC0
  have hlt0 := hC0.lt
  have fr0 := LBlk.frozen hA0 0
  have fr1 := LBlk.frozen hA0 1
  have fr2 := LBlk.frozen hA0 2
  have fr3 := LBlk.frozen hA0 3
  have fr4 := LBlk.frozen hA0 4
  have fr5 := LBlk.frozen hA0 5
  have fr6 := LBlk.frozen hA0 6
  have fr7 := LBlk.frozen hA0 7
  have fr8 := LBlk.frozen hA0 8
  have fr9 := LBlk.frozen hA0 9
  have fr10 := LBlk.frozen hA0 10
  have fr11 := LBlk.frozen hA0 11
  have fr12 := LBlk.frozen hA0 12
  have fr13 := LBlk.frozen hA0 13
  have fr14 := LBlk.frozen hA0 14
  have fr15 := LBlk.frozen hA0 15
  have fr16 := LBlk.frozen hA0 16
  have hla := LBlk.lt hA0
  have hne : g ≠ w.heap.size := by omega
  have hne2 : w.heap.size ≠ g := by omega
  clear hC0 hA0 hb0 hrd
  go_region_held3 (fun W => W.cell? ⟨g, 0, none⟩ = some (.bool s.latch.level) ∧ W.cell? ⟨g, 1, none⟩ = some (.bool s.latch.armed) ∧ W.cell? ⟨g, 2, none⟩ = some (.bool s.latch.set) ∧ W.cell? ⟨g, 3, none⟩ = some (.int .i64 s.arb.phase) ∧ W.cell? ⟨g, 4, none⟩ = some (.int .i64 s.arb.count) ∧ W.cell? ⟨g, 6, none⟩ = some (.int .i64 s.mode) ∧ W.cell? ⟨g, 7, none⟩ = some (.int .i64 s.row) ∧ W.cell? ⟨g, 8, none⟩ = some (.slice A n c) ∧ W.cell? ⟨g, 9, none⟩ = some (.int .u8 (s.now.a.toNat : Int)) ∧ W.cell? ⟨g, 10, none⟩ = some (.int .u8 (s.now.b.toNat : Int)) ∧ W.cell? ⟨g, 11, none⟩ = some (.int .u8 (s.now.dp.toNat : Int)) ∧ W.cell? ⟨g, 12, none⟩ = some (.int .u8 (s.now.cc.toNat : Int)) ∧ W.cell? ⟨g, 13, none⟩ = some (.int .u16 (s.now.x.toNat : Int)) ∧ W.cell? ⟨g, 14, none⟩ = some (.int .u16 (s.now.y.toNat : Int)) ∧ W.cell? ⟨g, 15, none⟩ = some (.int .u16 (s.now.u.toNat : Int)) ∧ W.cell? ⟨g, 16, none⟩ = some (.int .u16 (s.now.s.toNat : Int)) ∧ W.cell? ⟨g, 17, none⟩ = some (.int .u16 (s.now.pc.toNat : Int))) (first | with_reducible exact ⟨y0, y1, y2, y3, y4, y6, y7, y8, y9, y10, y11, y12, y13, y14, y15, y16, y17⟩ | (simp only [World.cell?_setCell_far, hne, hne2, ne_eq, not_false_eq_true, y0, y1, y2, y3, y4, y6, y7, y8, y9, y10, y11, y12, y13, y14, y15, y16, y17, and_self]; done) | (go_keep; done)) (first | (go_at_call 38; refine (HCL.out _ hrdh.out hbd.out.size).mono ?_; rintro e w3 ⟨v3, rfl, ho3, hb3⟩; obtain ⟨A3, c3, rfl, _, _, _⟩ := own_reads ho3; have hC3 := hCd.out.below hb3; have hA3 := LBlk.below hAd.out hb3 (LBlk.lt hAd.out); have y0 := LBlk.cell hC3.blk 0; have y1 := LBlk.cell hC3.blk 1; have y2 := LBlk.cell hC3.blk 2; have y3 := LBlk.cell hC3.blk 3; have y4 := LBlk.cell hC3.blk 4; have y6 := LBlk.cell hC3.blk 6; have y7 := LBlk.cell hC3.blk 7; have y8 := LBlk.cell hC3.blk 8; have y9 := LBlk.cell hC3.blk 9; have y10 := LBlk.cell hC3.blk 10; have y11 := LBlk.cell hC3.blk 11; have y12 := LBlk.cell hC3.blk 12; have y13 := LBlk.cell hC3.blk 13; have y14 := LBlk.cell hC3.blk 14; have y15 := LBlk.cell hC3.blk 15; have y16 := LBlk.cell hC3.blk 16; have y17 := LBlk.cell hC3.blk 17; simp only [cpuL, List.getElem?_cons_zero, List.getElem?_cons_succ] at y0 y1 y2 y3 y4 y6 y7 y8 y9 y10 y11 y12 y13 y14 y15 y16 y17; have hlz3 := hC3.lt; have hla3 := LBlk.lt hA3; have fz0 := LBlk.frozen hA3 0; have fz1 := LBlk.frozen hA3 1; have fz2 := LBlk.frozen hA3 2; have fz3 := LBlk.frozen hA3 3; have fz4 := LBlk.frozen hA3 4; have fz5 := LBlk.frozen hA3 5; have fz6 := LBlk.frozen hA3 6; have fz7 := LBlk.frozen hA3 7; have fz8 := LBlk.frozen hA3 8; have fz9 := LBlk.frozen hA3 9; have fz10 := LBlk.frozen hA3 10; have fz11 := LBlk.frozen hA3 11; have fz12 := LBlk.frozen hA3 12; have fz13 := LBlk.frozen hA3 13; have fz14 := LBlk.frozen hA3 14; have fz15 := LBlk.frozen hA3 15; have fz16 := LBlk.frozen hA3 16; have x0 := LBlk.cell hA3 0; have x1 := LBlk.cell hA3 1; have x2 := LBlk.cell hA3 2; have x3 := LBlk.cell hA3 3; have x4 := LBlk.cell hA3 4; have x5 := LBlk.cell hA3 5; have x6 := LBlk.cell hA3 6; have x7 := LBlk.cell hA3 7; have x8 := LBlk.cell hA3 8; have x9 := LBlk.cell hA3 9; have x10 := LBlk.cell hA3 10; have x11 := LBlk.cell hA3 11; have x12 := LBlk.cell hA3 12; have x13 := LBlk.cell hA3 13; have x14 := LBlk.cell hA3 14; have x15 := LBlk.cell hA3 15; have x16 := LBlk.cell hA3 16; simp only [List.getElem?_cons_zero, List.getElem?_cons_succ] at x0 x1 x2 x3 x4 x5 x6 x7 x8 x9 x10 x11 x12 x13 x14 x15 x16; have hbz := below_then hbd.out hb3))
  all_goals
    have hb17 := bel17 hbz (Nat.le_refl _) (.int .i64 s.mode) (.int .i64 s.row) (.slice A3 n c3) (.int .u8 (s.now.a.toNat : Int)) (.int .u8 (s.now.b.toNat : Int)) (.int .u8 (s.now.dp.toNat : Int)) (.int .u8 (s.now.cc.toNat : Int)) (.int .u16 (s.now.x.toNat : Int)) (.int .u16 (s.now.y.toNat : Int)) (.int .u16 (s.now.u.toNat : Int)) (.int .u16 (s.now.s.toNat : Int)) (.int .u16 (s.now.pc.toNat : Int)) (.bool s.latch.level) (.bool s.latch.armed) (.bool s.latch.set) (.int .i64 s.arb.phase) (.int .i64 s.arb.count)
    have hL17 := row17 hA3 (.int .i64 s.mode) (.int .i64 s.row) (.slice A3 n c3) (.int .u8 (s.now.a.toNat : Int)) (.int .u8 (s.now.b.toNat : Int)) (.int .u8 (s.now.dp.toNat : Int)) (.int .u8 (s.now.cc.toNat : Int)) (.int .u16 (s.now.x.toNat : Int)) (.int .u16 (s.now.y.toNat : Int)) (.int .u16 (s.now.u.toNat : Int)) (.int .u16 (s.now.s.toNat : Int)) (.int .u16 (s.now.pc.toNat : Int)) (.bool s.latch.level) (.bool s.latch.armed) (.bool s.latch.set) (.int .i64 s.arb.phase) (.int .i64 s.arb.count)
    have hb17h := Lib.hid hb17
    have hL17h := Lib.hid hL17
    clear hb17 hL17
    go_wp2
    refine bodyPost_ret (v := .agg (stL s (.slice A3 n c3)).toArray) ?_ rfl ⟨⟨A3, n, c3, rfl⟩, hb17h.out⟩
    exact (results_cell_row rfl _ _ w.heap.size 69 (stL s (.slice A3 n c3)).toArray (0, 0) _ rfl hL17h.out Tryz.underlying69 rfl (by kernel_rfl)).trans rfl
set_option maxRecDepth 100000 in
set_option maxHeartbeats 8000000 in
theorem mach_State {B N h : Nat} {s : Cpu} {m : Mem} {rom : Int} (w : World) (hM : MachAt B N h s m rom w) (hBw : B ≤ w.heap.size) (hN : N ≤ 1000000) :
    Calls Tryz.prog 17 #[.pointer (some ⟨h, 0, none⟩)] w fun e w' => (∃ A n c, e = .returned (.agg (stL s (.slice A n c)).toArray)) ∧ Below w.heap.size w w' := by
  obtain ⟨g, gr, hl, p, lv, pb, cs, hC, _⟩ := hM
  have hb0 : Below w.heap.size w (w.alloc (.cells #[.int .i64 0, .int .i64 0, .slice none 0 0, .int .u8 0, .int .u8 0, .int .u8 0, .int .u8 0, .int .u16 0, .int .u16 0, .int .u16 0, .int .u16 0, .int .u16 0, .bool false, .bool false, .bool false, .int .i64 0, .int .i64 0] 69)) := below_alloc (Below.refl _ _) _
  have hA0 : LBlk (w.alloc (.cells #[.int .i64 0, .int .i64 0, .slice none 0 0, .int .u8 0, .int .u8 0, .int .u8 0, .int .u8 0, .int .u16 0, .int .u16 0, .int .u16 0, .int .u16 0, .int .u16 0, .bool false, .bool false, .bool false, .int .i64 0, .int .i64 0] 69)) w.heap.size 69 [.int .i64 0, .int .i64 0, .slice none 0 0, .int .u8 0, .int .u8 0, .int .u8 0, .int .u8 0, .int .u16 0, .int .u16 0, .int .u16 0, .int .u16 0, .int .u16 0, .bool false, .bool false, .bool false, .int .i64 0, .int .i64 0] := Blk.newAt w _ _ w.heap.size rfl
  have HS := Lib.hid (cpu_State (w.alloc (.cells #[.int .i64 0, .int .i64 0, .slice none 0 0, .int .u8 0, .int .u8 0, .int .u8 0, .int .u8 0, .int .u16 0, .int .u16 0, .int .u16 0, .int .u16 0, .int .u16 0, .bool false, .bool false, .bool false, .int .i64 0, .int .i64 0] 69)) (hC.alloc (.cells #[.int .i64 0, .int .i64 0, .slice none 0 0, .int .u8 0, .int .u8 0, .int .u8 0, .int .u8 0, .int .u16 0, .int .u16 0, .int .u16 0, .int .u16 0, .int .u16 0, .bool false, .bool false, .bool false, .int .i64 0, .int .i64 0] 69)) (by simp; omega) hN)
  have k0 := LBlk.cell hl 0
  simp only [List.getElem?_cons_zero, List.getElem?_cons_succ] at k0
  have hlh := LBlk.lt hl
  clear hC hl
  go_enter Tryz.func17, Tryz.ntmps17
  go_wp2_with fail
  generalize w.alloc (.cells #[.int .i64 0, .int .i64 0, .slice none 0 0, .int .u8 0, .int .u8 0, .int .u8 0, .int .u8 0, .int .u16 0, .int .u16 0, .int .u16 0, .int .u16 0, .int .u16 0, .bool false, .bool false, .bool false, .int .i64 0, .int .i64 0] 69) = w0 at *
  refine HS.out.mono ?_
  rintro e w3 ⟨⟨A, n, c, rfl⟩, hb3⟩
  have hA3 := LBlk.below hA0 hb3 (LBlk.lt hA0)
  have hbz := below_then hb0 hb3
  have x0 := LBlk.cell hA3 0
  have x1 := LBlk.cell hA3 1
  have x2 := LBlk.cell hA3 2
  have x3 := LBlk.cell hA3 3
  have x4 := LBlk.cell hA3 4
  have x5 := LBlk.cell hA3 5
  have x6 := LBlk.cell hA3 6
  have x7 := LBlk.cell hA3 7
  have x8 := LBlk.cell hA3 8
  have x9 := LBlk.cell hA3 9
  have x10 := LBlk.cell hA3 10
  have x11 := LBlk.cell hA3 11
  have x12 := LBlk.cell hA3 12
  have x13 := LBlk.cell hA3 13
  have x14 := LBlk.cell hA3 14
  have x15 := LBlk.cell hA3 15
  have x16 := LBlk.cell hA3 16
  simp only [List.getElem?_cons_zero, List.getElem?_cons_succ] at x0 x1 x2 x3 x4 x5 x6 x7 x8 x9 x10 x11 x12 x13 x14 x15 x16
  have fz0 := LBlk.frozen hA3 0
  have fz1 := LBlk.frozen hA3 1
  have fz2 := LBlk.frozen hA3 2
  have fz3 := LBlk.frozen hA3 3
  have fz4 := LBlk.frozen hA3 4
  have fz5 := LBlk.frozen hA3 5
  have fz6 := LBlk.frozen hA3 6
  have fz7 := LBlk.frozen hA3 7
  have fz8 := LBlk.frozen hA3 8
  have fz9 := LBlk.frozen hA3 9
  have fz10 := LBlk.frozen hA3 10
  have fz11 := LBlk.frozen hA3 11
  have fz12 := LBlk.frozen hA3 12
  have fz13 := LBlk.frozen hA3 13
  have fz14 := LBlk.frozen hA3 14
  have fz15 := LBlk.frozen hA3 15
  have fz16 := LBlk.frozen hA3 16
  have hla3 := LBlk.lt hA3
  have hv17 := bel17 hbz (Nat.le_refl _) (.int .i64 s.mode) (.int .i64 s.row) (.slice A n c) (.int .u8 (s.now.a.toNat : Int)) (.int .u8 (s.now.b.toNat : Int)) (.int .u8 (s.now.dp.toNat : Int)) (.int .u8 (s.now.cc.toNat : Int)) (.int .u16 (s.now.x.toNat : Int)) (.int .u16 (s.now.y.toNat : Int)) (.int .u16 (s.now.u.toNat : Int)) (.int .u16 (s.now.s.toNat : Int)) (.int .u16 (s.now.pc.toNat : Int)) (.bool s.latch.level) (.bool s.latch.armed) (.bool s.latch.set) (.int .i64 s.arb.phase) (.int .i64 s.arb.count)
  have hb17h := Lib.hid hv17
  have hL17h := Lib.hid (row17 hA3 (.int .i64 s.mode) (.int .i64 s.row) (.slice A n c) (.int .u8 (s.now.a.toNat : Int)) (.int .u8 (s.now.b.toNat : Int)) (.int .u8 (s.now.dp.toNat : Int)) (.int .u8 (s.now.cc.toNat : Int)) (.int .u16 (s.now.x.toNat : Int)) (.int .u16 (s.now.y.toNat : Int)) (.int .u16 (s.now.u.toNat : Int)) (.int .u16 (s.now.s.toNat : Int)) (.int .u16 (s.now.pc.toNat : Int)) (.bool s.latch.level) (.bool s.latch.armed) (.bool s.latch.set) (.int .i64 s.arb.phase) (.int .i64 s.arb.count))
  clear hv17 hA3 hbz hA0 hb0 hb3 k0
  go_wp2
  refine bodyPost_ret (v := .agg (stL s (.slice A n c)).toArray) ?_ rfl ⟨⟨A, n, c, rfl⟩, hb17h.out⟩
  exact (results_cell_row rfl _ _ w.heap.size 69 (stL s (.slice A n c)).toArray (0, 0) _ rfl hL17h.out Tryz.underlying69 rfl (by kernel_rfl)).trans rfl
end Go.Proofs.YtkdaphkpllgmbaaGreat

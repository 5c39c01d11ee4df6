/-
  The walk of the law RamPlays: for all bytes, ends and calls it returns true.
-/
import Derived.Test.YtgebopmiefgdoaaRam12
namespace Go.Proofs.Ytgebopmiefgdoaa
open Go.RowKit
theorem u8_in {W : World} {s : Sl Int} (g : s.Good W 1 u8Cell u8Good) : ∃ l : List UInt8, Reads W W.heap.size 1 s.a s.n (bytesV l) ∧ l.length = s.n := by
  obtain ⟨l, h1, h2⟩ := bytes_in g.all
  refine ⟨l, ?_, h2.trans g.len⟩
  rw [← h1]
  exact g.reads
theorem madeMem (w : World) : MemAt w.heap.size (fun _ => 0) (w.alloc (.cells (madeCells #[.int .u8 0] 65536) 5)) := by
  refine ⟨_, Blk.new w _ _, size_madeCells _ _, fun k hk => ?_⟩
  rw [← Array.getElem?_toList, toList_madeCells_one, List.getElem?_replicate, if_pos hk]
  rfl
theorem below_only {B g : Nat} {w0 w w' : World} (hb : Below B w0 w) (hg : B ≤ g) (h2 : w'.heap.size = w.heap.size) (h3 : w'.os = w.os) (h4 : w'.tape = w.tape) (h5 : w'.output = w.output) (h6 : ∀ q, q ≠ g → w'.heap[q]? = w.heap[q]?) : Below B w0 w' :=
  hb.trans ⟨h3, h4, h5, by omega, fun q hq => h6 q (by omega)⟩
theorem partL_all (m : Nat → UInt8) : (List.range 65536).map (fun j => m (0 + j)) = partL m 0 65536 := by
  unfold partL
  apply List.map_congr_left
  intro j hj
  rw [List.mem_range] at hj
  rw [show (0 + j) % 65536 = 0 + j by omega]
set_option maxRecDepth 100000 in
set_option maxHeartbeats 16000000 in
theorem RamPlays_walk (w : World) (img : Sl Int) (gi : img.Good w 1 u8Cell u8Good) (rom : Int) (_gr : IntKind.i64.min ≤ rom ∧ rom ≤ IntKind.i64.max) (calls : Sl RamOp) (gc : calls.Good w 3 RamOp.cells (RamOp.Good w)) :
    Calls Try.prog 16 #[img.v, .int .i64 rom, calls.v] w fun e w' => e = .returned (.bool true) ∧ Below w.heap.size w w' := by
  obtain ⟨limg, hri, hli⟩ := u8_in gi
  obtain ⟨Ai, ni, ci, xi⟩ := img
  obtain ⟨hnci, hcmi, _, _, _⟩ := gi
  obtain ⟨Ac, N, cc, ops⟩ := calls
  obtain ⟨_, hcm, hrc, hlc, hall⟩ := gc
  dsimp only [Sl.v] at *
  unfold maxLen at *
  by_cases hN : 40 < N
  · go_enter Try.func16, Try.ntmps16
    go_wp2
    go_ret
    exact ⟨rfl, Below.refl _ _⟩
  by_cases hrom : rom < 0 ∨ 65536 < rom
  · have HNA := Lib.hid (New_arg Ai ni ci rom w hrom)
    rcases hrom with hrom | hrom
    all_goals
      go_enter Try.func16, Try.ntmps16
      go_wp2_with fail
      refine HNA.out.mono ?_
      rintro e w1 ⟨rfl, rfl⟩
      go_wp2_with ((go_at_call 86; refine (alive32 _).mono ?_; rintro e w2 ⟨rfl, hb2⟩))
      go_ret
      exact ⟨rfl, hb2⟩
  have hr0 : 0 ≤ rom := by omega
  have hr1 : rom ≤ 65536 := by omega
  clear hrom
  by_cases hni : 65536 < ni
  · have HNS := Lib.hid (New_size Ai ni ci rom w hni (by omega) hr0 hr1)
    go_enter Try.func16, Try.ntmps16
    go_wp2_with fail
    refine HNS.out.mono ?_
    rintro e w1 ⟨rfl, hb1⟩
    go_wp2_with ((go_at_call 86; refine (alive32 _).mono ?_; rintro e w2 ⟨rfl, hb2⟩))
    go_ret
    exact ⟨rfl, below_then hb1 hb2⟩
  obtain ⟨i0, hi, hz0, hz1, hz2⟩ := info_parts info_u8
  have hmk : ∀ u : World, (Instr.makeSlice 37 (.int .i64 65536) (.int .i64 65536)).run Try.prog u = .ok (.slice (some ⟨u.heap.size, 0, none⟩) 65536 65536) (u.alloc (.cells (madeCells #[.int .u8 0] 65536) 5)) := fun u => by
    have h := run_make (P := Try.prog) u 37 5 i0 (.int .u8 0) Try.underlying37 hi hz0 .i64 .i64 65536 65536 (by omega) (by omega) (by rw [hz2]; omega) (by omega)
    simpa [hz1, Value.cells] using h
  have HNE := Lib.hid (New_any limg Ai ni ci rom w hri (by omega) hr0 hr1)
  have HALL := Lib.hid hall
  clear hall
  go_enter Try.func16, Try.ntmps16
  go_wp2_with fail
  refine HNE.out.mono ?_
  rintro e w1 ⟨rfl, ⟨pb0, cs0, hR0⟩, hb1⟩
  clear HNE
  have HR0 := Lib.hid hR0
  clear hR0
  have hm0 := madeMem w1
  have hri1 := (hri.below hb1).below (below_alloc (Below.refl _ w1) (.cells (madeCells #[.int .u8 0] 65536) 5) |>.mono hb1.size)
  go_wp2_with ((refine wpList_copy_mem rfl (.tmp 59) (.tmp 60) 37 37 rfl Try.underlying37 w1.heap.size 0 65536 65536 Ai ni ci _ rfl rfl limg (fun _ => 0) hm0 hri1 (by omega) (by omega) ?_; intro w2 hm2 hz2' ho2 ht2 hp2 hs2))
  have hb2 : Below w.heap.size w w2 := below_only (hb1.alloc hb1.size _) hb1.size hz2' ho2 ht2 hp2 hs2.out
  have HB2 := Lib.hid (⟨⟨pb0, cs0, (HR0.out.below (below_alloc (Below.refl _ w1) _)).same (hs2.out _ (fun e => by have := HR0.out.blk.lt; omega)) (fun i b hi e => hs2.out _ (fun e2 => by have := HR0.out.plt hi e; omega)), fun i hi e => by have := HR0.out.plt hi e; omega⟩, hm2, fun e => by have := HR0.out.blk.lt; omega⟩ : Both w.heap.size w1.heap.size w.heap.size (updL (fun _ => 0) 0 limg) rom w2)
  have hgl : w.heap.size ≤ w1.heap.size := hb1.size
  clear hm0 hri1 hm2 hz2' ho2 ht2 hp2 hs2 HR0 hmk
  generalize w1.heap.size = gl at *
  go_loopw [7, 10] (fun v i wr => ∃ (k g : Nat) (m : Nat → UInt8), k ≤ N ∧ i = .int .i64 k ∧ v = .pointer (some ⟨g, 0, none⟩) ∧ Both w.heap.size gl g m rom wr ∧ Below w.heap.size w wr) (fun _ i _ => N - (intOf i).toNat)
  case atStart => exact ⟨0, _, _, by omega, rfl, rfl, HB2.out, hb2⟩
  case round =>
    clear HB2 hb2 hb1
    obtain ⟨k, g, m, hk, rfl, rfl, ⟨⟨pb, cs, hR, hap⟩, hm, hgg⟩, hbl⟩ := hrel
    have HR := Lib.hid hR
    have HM := Lib.hid hm
    have hgw := hR.blk.lt
    have hglw := hm.lt
    clear hR hm
    by_cases hkN : k < N
    · obtain ⟨ad, y, rfl, had, hy, hcells⟩ := Reads.elem (size := 3) RamOp.cells_len (by omega) hrc hkN
      have hgy := HALL.out y (List.mem_of_getElem? hy)
      obtain ⟨lb, hrb, hlb⟩ := u8_in hgy.b
      obtain ⟨kind, At, ⟨Ax, nx, cx, xs⟩⟩ := y
      have hkind := hgy.kind
      have hat := hgy.at_
      have hcx := hgy.b.cm
      have hcw : ∀ j v, [Value.int .i64 kind, .int .i64 At, .slice Ax nx cx][j]? = some v → wr.cell? ((ad.add (k * 3)).add j) = some v := fun j v hv => by
        rw [add_of_add]
        exact (hbl.cell (by rw [block_of_add]; exact had)).trans (hcells j v hv)
      dsimp only [Sl.v] at *
      clear hgy hcells hy
      have hkN' : (k : Int) < (N : Int) := by omega
      unfold maxLen at hcx
      by_cases hx0 : nx = 0 ∨ 300 < nx
      · rcases hx0 with rfl | hx0
        all_goals
          go_wp2_with (with_reducible refine wpList_load_at rfl 119 (.tmp 70) rfl (ad.add (k * 3)) rfl _ _ hcw Try.underlying119 rfl (by kernel_rfl) ?_)
          go_ret
          exact ⟨rfl, below_alloc' hbl⟩
      · obtain ⟨ad2, u2, rfl, hab2, hu2, hc2⟩ := hrb.at_ (k := 0) (by omega)
        obtain ⟨x0, hx0l, rfl⟩ := bytesV_get lb 0 u2 hu2
        rw [show ad2.add 0 = ad2 by unfold Addr.add; rw [if_pos rfl]] at hc2
        obtain ⟨a, hA⟩ : ∃ a : Nat, IntKind.u16.wrap At = (a : Int) := ⟨(At % 65536).toNat, by rw [IntKind.wrap_u16]; omega⟩
        have ha : a < 65536 := by
          rw [IntKind.wrap_u16] at hA
          omega
        have hx1 : 0 < nx := by omega
        have hx2 : nx ≤ 300 := by omega
        have hx1' : (0 : Int) < (nx : Int) := by omega
        have hx2' : (nx : Int) ≤ 300 := by omega
        have HX0 := Lib.hid hx0l
        have hnx0 : ((nx : Int) == 0) = false := by
          rw [beq_eq_false_iff_ne]
          omega
        have HA := Lib.hid hA
        clear hx0 hu2 hx0l
        -- CASES
        -- CASES
        -- CASES
        -- CASES
        -- CASES
        -- CASES
        -- CASES
        -- CASES
        by_cases hk3 : kind = 3
        · subst hk3
          have hb1 : Below w.heap.size w (wr.alloc (.cells #[.int .i64 3, .int .i64 At, .slice (some ad2) nx cx] 119)) := below_alloc' hbl
          have hbw1 : Below wr.heap.size wr (wr.alloc (.cells #[.int .i64 3, .int .i64 At, .slice (some ad2) nx cx] 119)) := below_alloc (Below.refl _ wr) _
          have hc1 : (wr.alloc (.cells #[.int .i64 3, .int .i64 At, .slice (some ad2) nx cx] 119)).cell? ad2 = some (.int .u8 (x0.toNat : Int)) := (hb1.cell (p := ad2) hab2).trans hc2
          have hR1 : RamAt w.heap.size g m rom pb cs (wr.alloc (.cells #[.int .i64 3, .int .i64 At, .slice (some ad2) nx cx] 119)) := HR.out.below hbw1
          have hm1 : MemAt gl m (wr.alloc (.cells #[.int .i64 3, .int .i64 At, .slice (some ad2) nx cx] 119)) := HM.out.below hbw1
          have HM1 := Lib.hid hm1
          have hs1 : (wr.alloc (.cells #[.int .i64 3, .int .i64 At, .slice (some ad2) nx cx] 119)).heap.size = wr.heap.size + 1 := by simp
          have HS1 := Lib.hid hs1
          have HBX : Hid (Blk (wr.alloc (.cells #[.int .i64 3, .int .i64 At, .slice (some ad2) nx cx] 119)) wr.heap.size 119 #[.int .i64 3, .int .i64 At, .slice (some ad2) nx cx]) := Blk.new wr _ _
          clear hbw1 hm1 hs1
          go_wp2_with (with_reducible refine wpList_load_at rfl 119 (.tmp 70) rfl (ad.add (k * 3)) rfl _ _ hcw Try.underlying119 rfl (by kernel_rfl) ?_)
          refine (Poke_a a x0 _ hR1 (by rw [HS1.out]; omega) ha).mono ?_
          rintro e w2 ⟨rfl, hst⟩
          have hon := hst.only
          have hbxw2 : Blk w2 wr.heap.size 119 #[.int .i64 3, .int .i64 At, .slice (some ad2) nx cx] := (hon.block wr.heap.size (by simp) (by omega) (fun i hi e => by have := HR.out.plt hi e; omega)).trans HBX.out
          obtain ⟨bx0, bx1, bx2⟩ := hbxw2.c3
          have hs2 : wr.heap.size + 1 ≤ w2.heap.size := by have := hon.size; rw [HS1.out] at this; exact this
          have hc2' := (hst.below.cell (p := ad2) hab2).trans hc1
          have hbl2 := hb1.trans hst.below
          have HH := Lib.hid (Both.step hR1 hap HM1.out hgg hst)
          have HX2 := Lib.hid hbxw2
          clear hst hon hR1 hbxw2
          have gc := HH.out.mem.cell ha
          have gf := HH.out.mem.frozen a
          have hglt := HH.out.mem.lt
          have HB3 := Lib.hid (HH.out.set_ ha)
          have hbl3 := hbl2.setCell (p := ⟨gl, a, none⟩) hgl (.int .u8 (x0.toNat : Int))
          have hbx : Blk (w2.setCell ⟨gl, a, none⟩ (.int .u8 (x0.toNat : Int))) wr.heap.size 119 #[.int .i64 3, .int .i64 At, .slice (some ad2) nx cx] := HX2.out.far (fun e => by dsimp only at e; omega) _
          have hcb : ∀ j v, [Value.int .i64 3, .int .i64 At, .slice (some ad2) nx cx][j]? = some v → (w2.setCell ⟨gl, a, none⟩ (.int .u8 (x0.toNat : Int))).cell? ((⟨wr.heap.size, 0, none⟩ : Addr).add j) = some v := fun j v hv => by rw [addr_add0, hbx.cell j]; simpa using hv
          clear hbx hglt
          go_wp2_with (with_reducible refine wpList_load_at rfl 119 (.tmp 11) rfl ⟨wr.heap.size, 0, none⟩ rfl _ _ hcb Try.underlying119 rfl (by kernel_rfl) ?_)
          obtain ⟨⟨pb9, cs9, hR9, _⟩, hm9, _⟩ := HB3.out
          refine (told_any 3 At (.slice (some ad2) nx cx) (w2.setCell ⟨gl, a, none⟩ (.int .u8 (x0.toNat : Int))) hR9 hm9 ha HA.out).mono ?_
          rintro e w9 ⟨rfl, hb9⟩
          have HB9 := Lib.hid (HB3.out.below hb9)
          have hbl9 := below_then hbl3 hb9
          clear hR9 hm9 hb9 hcb
          go_wp2_with fail
          go_roundw
          case rel => exact ⟨k + 1, _, _, by omega, by go_num, rfl, HB9.out, hbl9⟩
          case measure => simp [intOf]; omega
        by_cases hk4 : kind = 4
        · subst hk4
          have hb1 : Below w.heap.size w (wr.alloc (.cells #[.int .i64 4, .int .i64 At, .slice (some ad2) nx cx] 119)) := below_alloc' hbl
          have hbw1 : Below wr.heap.size wr (wr.alloc (.cells #[.int .i64 4, .int .i64 At, .slice (some ad2) nx cx] 119)) := below_alloc (Below.refl _ wr) _
          have hc1 : (wr.alloc (.cells #[.int .i64 4, .int .i64 At, .slice (some ad2) nx cx] 119)).cell? ad2 = some (.int .u8 (x0.toNat : Int)) := (hb1.cell (p := ad2) hab2).trans hc2
          have hR1 : RamAt w.heap.size g m rom pb cs (wr.alloc (.cells #[.int .i64 4, .int .i64 At, .slice (some ad2) nx cx] 119)) := HR.out.below hbw1
          have hm1 : MemAt gl m (wr.alloc (.cells #[.int .i64 4, .int .i64 At, .slice (some ad2) nx cx] 119)) := HM.out.below hbw1
          have HM1 := Lib.hid hm1
          have hs1 : (wr.alloc (.cells #[.int .i64 4, .int .i64 At, .slice (some ad2) nx cx] 119)).heap.size = wr.heap.size + 1 := by simp
          have HS1 := Lib.hid hs1
          have HBX : Hid (Blk (wr.alloc (.cells #[.int .i64 4, .int .i64 At, .slice (some ad2) nx cx] 119)) wr.heap.size 119 #[.int .i64 4, .int .i64 At, .slice (some ad2) nx cx]) := Blk.new wr _ _
          clear hbw1 hm1 hs1
          by_cases hfit : 0 ≤ At ∧ At ≤ 65536 - (nx : Int)
          · obtain ⟨hfit0, hfit1⟩ := hfit
            obtain ⟨p, rfl⟩ : ∃ p : Nat, At = (p : Int) := ⟨At.toNat, by omega⟩
            have hrb1 := (hrb.below hb1)
            have HLD := Lib.hid (Load_any p lb (some ad2) nx cx _ hR1 (by rw [HS1.out]; omega) hrb1 (by omega))
            have hp1 : (p : Int) ≤ 65536 := by omega
            have hp2 : (nx : Int) ≤ 65536 - (p : Int) := by omega
            clear hrb1
            go_wp2_with (with_reducible refine wpList_load_at rfl 119 (.tmp 70) rfl (ad.add (k * 3)) rfl _ _ hcw Try.underlying119 rfl (by kernel_rfl) ?_)
            refine HLD.out.mono ?_
            rintro e w2 ⟨rfl, hst⟩
            have hon := hst.only
            have hbxw2 : Blk w2 wr.heap.size 119 #[.int .i64 4, .int .i64 (p : Int), .slice (some ad2) nx cx] := (hon.block wr.heap.size (by simp) (by omega) (fun i hi e => by have := HR.out.plt hi e; omega)).trans HBX.out
            obtain ⟨bx0, bx1, bx2⟩ := hbxw2.c3
            have hs2 : wr.heap.size + 1 ≤ w2.heap.size := by have := hon.size; rw [HS1.out] at this; exact this
            have hc2' := (hst.below.cell (p := ad2) hab2).trans hc1
            have hbl2 := hb1.trans hst.below
            have HH := Lib.hid (Both.step hR1 hap HM1.out hgg hst)
            have HX2 := Lib.hid hbxw2
            clear hst hon hR1 hbxw2 HLD
            have hrb2 := hrb.below hbl2
            have hm2 := HH.out.mem
            have HM2 := Lib.hid hm2
            have hsl : ∀ W : World, (Instr.slice 37 (.slice (some ⟨gl, 0, none⟩) 65536 65536) (some (.int .i64 (p : Int))) none none).run Try.prog W = .ok (.slice (some ⟨gl, p, none⟩) (65536 - p) (65536 - p)) W := fun W => slice_from gl p 65536 (by omega) W
            have hsl2 : ∀ W : World, (Instr.sliceAt 37 (.slice (some ⟨gl, 0, none⟩) 65536 65536) (some (.int .i64 (p : Int))) none none).run Try.prog W = .ok (.slice (some ⟨gl, p, none⟩) (65536 - p) (65536 - p)) W := fun W => by rw [run_sliceAt_slice W _ _ _ _ _ (by kernel_rfl)]; exact hsl W
            have hrb2d := hrb2.below (below_drewN (Below.refl _ w2) 1 |>.mono (by omega))
            have hm2d := hm2.below (below_drewN (Below.refl _ w2) 1)
            clear hm2 hrb2
            go_wp2_with fail
            go_region_law (refine step_copy_mem rfl (.tmp 162) (.tmp 164) 37 37 rfl Try.underlying37 gl p (65536 - p) (65536 - p) (some ad2) nx cx _ (by simp [Act.eval, Act.put]) (by simp [Act.eval, Act.put]) lb m hm2d hrb2d (by omega) (by omega) ?_; intro w3 hm3 hz3 ho3 ht3 hp3 hs3)
            all_goals
              have HB3 := Lib.hid (HH.out.mem_ hm3 (fun q _ hq => hs3.out q hq))
              have hbl3 : Below w.heap.size w w3 := below_only hbl2 hgl hz3 ho3 ht3 hp3 hs3.out
              have hglt := HM.out.lt
              have hbx : Blk w3 wr.heap.size 119 #[.int .i64 4, .int .i64 (p : Int), .slice (some ad2) nx cx] := (hs3.out _ (by omega)).trans HX2.out
              have hcb : ∀ j v, [Value.int .i64 4, .int .i64 (p : Int), .slice (some ad2) nx cx][j]? = some v → w3.cell? ((⟨wr.heap.size, 0, none⟩ : Addr).add j) = some v := fun j v hv => by rw [addr_add0, hbx.cell j]; simpa using hv
              clear hbx hglt hm3 hz3 ho3 ht3 hp3
              go_wp2_with (with_reducible refine wpList_load_at rfl 119 (.tmp 11) rfl ⟨wr.heap.size, 0, none⟩ rfl _ _ hcb Try.underlying119 rfl (by kernel_rfl) ?_)
              obtain ⟨⟨pb9, cs9, hR9, _⟩, hm9, _⟩ := HB3.out
              refine (told_any 4 (p : Int) (.slice (some ad2) nx cx) w3 hR9 hm9 ha HA.out).mono ?_
              rintro e w9 ⟨rfl, hb9⟩
              have HB9 := Lib.hid (HB3.out.below hb9)
              have hbl9 := below_then hbl3 hb9
              clear hR9 hm9 hb9 hcb
              go_wp2_with fail
              go_roundw
              case rel => exact ⟨k + 1, _, _, by omega, by go_num, rfl, HB9.out, hbl9⟩
              case measure => simp [intOf]; omega
          · have HLD := Lib.hid (Load_bad g At (some ad2) nx cx (wr.alloc (.cells #[.int .i64 4, .int .i64 At, .slice (some ad2) nx cx] 119)) (by omega) (by omega))
            have HB3 : Hid (Both w.heap.size gl g m rom (wr.alloc (.cells #[.int .i64 4, .int .i64 At, .slice (some ad2) nx cx] 119))) := ⟨⟨pb, cs, hR1, hap⟩, HM1.out, hgg⟩
            clear hR1
            by_cases hneg : At < 0
            · clear hfit
              have hbx : Blk (wr.alloc (.cells #[.int .i64 4, .int .i64 At, .slice (some ad2) nx cx] 119)) wr.heap.size 119 #[.int .i64 4, .int .i64 At, .slice (some ad2) nx cx] := HBX.out
              have hcb : ∀ j v, [Value.int .i64 4, .int .i64 At, .slice (some ad2) nx cx][j]? = some v → (wr.alloc (.cells #[.int .i64 4, .int .i64 At, .slice (some ad2) nx cx] 119)).cell? ((⟨wr.heap.size, 0, none⟩ : Addr).add j) = some v := fun j v hv => by rw [addr_add0, hbx.cell j]; simpa using hv
              clear hbx
              go_wp2_with (with_reducible refine wpList_load_at rfl 119 (.tmp 70) rfl (ad.add (k * 3)) rfl _ _ hcw Try.underlying119 rfl (by kernel_rfl) ?_)
              refine HLD.out.mono ?_
              rintro e w2 ⟨rfl, rfl⟩
              go_wp2_with (with_reducible refine wpList_load_at rfl 119 (.tmp 11) rfl ⟨wr.heap.size, 0, none⟩ rfl _ _ hcb Try.underlying119 rfl (by kernel_rfl) ?_)
              obtain ⟨⟨pb9, cs9, hR9, _⟩, hm9, _⟩ := HB3.out
              refine (told_any 4 At (.slice (some ad2) nx cx) (wr.alloc (.cells #[.int .i64 4, .int .i64 At, .slice (some ad2) nx cx] 119)) hR9 hm9 ha HA.out).mono ?_
              rintro e w9 ⟨rfl, hb9⟩
              have HB9 := Lib.hid (HB3.out.below hb9)
              have hbl9 := below_then hb1 hb9
              clear hR9 hm9 hb9 hcb
              go_wp2_with fail
              go_roundw
              case rel => exact ⟨k + 1, _, _, by omega, by go_num, rfl, HB9.out, hbl9⟩
              case measure => simp [intOf]; omega
            · have hfit' : 65536 - (nx : Int) < At := by omega
              have hneg' : 0 ≤ At := by omega
              clear hfit hneg
              have hbx : Blk (wr.alloc (.cells #[.int .i64 4, .int .i64 At, .slice (some ad2) nx cx] 119)) wr.heap.size 119 #[.int .i64 4, .int .i64 At, .slice (some ad2) nx cx] := HBX.out
              have hcb : ∀ j v, [Value.int .i64 4, .int .i64 At, .slice (some ad2) nx cx][j]? = some v → (wr.alloc (.cells #[.int .i64 4, .int .i64 At, .slice (some ad2) nx cx] 119)).cell? ((⟨wr.heap.size, 0, none⟩ : Addr).add j) = some v := fun j v hv => by rw [addr_add0, hbx.cell j]; simpa using hv
              clear hbx
              go_wp2_with (with_reducible refine wpList_load_at rfl 119 (.tmp 70) rfl (ad.add (k * 3)) rfl _ _ hcw Try.underlying119 rfl (by kernel_rfl) ?_)
              refine HLD.out.mono ?_
              rintro e w2 ⟨rfl, rfl⟩
              go_wp2_with (with_reducible refine wpList_load_at rfl 119 (.tmp 11) rfl ⟨wr.heap.size, 0, none⟩ rfl _ _ hcb Try.underlying119 rfl (by kernel_rfl) ?_)
              obtain ⟨⟨pb9, cs9, hR9, _⟩, hm9, _⟩ := HB3.out
              refine (told_any 4 At (.slice (some ad2) nx cx) (wr.alloc (.cells #[.int .i64 4, .int .i64 At, .slice (some ad2) nx cx] 119)) hR9 hm9 ha HA.out).mono ?_
              rintro e w9 ⟨rfl, hb9⟩
              have HB9 := Lib.hid (HB3.out.below hb9)
              have hbl9 := below_then hb1 hb9
              clear hR9 hm9 hb9 hcb
              go_wp2_with fail
              go_roundw
              case rel => exact ⟨k + 1, _, _, by omega, by go_num, rfl, HB9.out, hbl9⟩
              case measure => simp [intOf]; omega
        by_cases hk5 : kind = 5
        · subst hk5
          have hb1 : Below w.heap.size w (wr.alloc (.cells #[.int .i64 5, .int .i64 At, .slice (some ad2) nx cx] 119)) := below_alloc' hbl
          have hbw1 : Below wr.heap.size wr (wr.alloc (.cells #[.int .i64 5, .int .i64 At, .slice (some ad2) nx cx] 119)) := below_alloc (Below.refl _ wr) _
          have hc1 : (wr.alloc (.cells #[.int .i64 5, .int .i64 At, .slice (some ad2) nx cx] 119)).cell? ad2 = some (.int .u8 (x0.toNat : Int)) := (hb1.cell (p := ad2) hab2).trans hc2
          have hR1 : RamAt w.heap.size g m rom pb cs (wr.alloc (.cells #[.int .i64 5, .int .i64 At, .slice (some ad2) nx cx] 119)) := HR.out.below hbw1
          have hm1 : MemAt gl m (wr.alloc (.cells #[.int .i64 5, .int .i64 At, .slice (some ad2) nx cx] 119)) := HM.out.below hbw1
          have HM1 := Lib.hid hm1
          have hs1 : (wr.alloc (.cells #[.int .i64 5, .int .i64 At, .slice (some ad2) nx cx] 119)).heap.size = wr.heap.size + 1 := by simp
          have HS1 := Lib.hid hs1
          have HBX : Hid (Blk (wr.alloc (.cells #[.int .i64 5, .int .i64 At, .slice (some ad2) nx cx] 119)) wr.heap.size 119 #[.int .i64 5, .int .i64 At, .slice (some ad2) nx cx]) := Blk.new wr _ _
          clear hbw1 hm1 hs1
          have HR1 := Lib.hid hR1
          have HCP := Lib.hid (Copy_any _ hR1)
          rw [HS1.out] at HCP
          clear hR1
          go_wp2_with (with_reducible refine wpList_load_at rfl 119 (.tmp 70) rfl (ad.add (k * 3)) rfl _ _ hcw Try.underlying119 rfl (by kernel_rfl) ?_)
          refine HCP.out.mono ?_
          rintro e w2 ⟨rfl, ⟨pbn, csn, hRn⟩, hb2⟩
          have hbw2 := hb2.size
          have hz2 : wr.heap.size + 1 ≤ w2.heap.size := by simpa using hbw2
          have HB2 : Hid (Below (wr.alloc (.cells #[.int .i64 5, .int .i64 At, .slice (some ad2) nx cx] 119)).heap.size (wr.alloc (.cells #[.int .i64 5, .int .i64 At, .slice (some ad2) nx cx] 119)) w2) := by
            show Below (wr.alloc (.cells #[.int .i64 5, .int .i64 At, .slice (some ad2) nx cx] 119)).heap.size (wr.alloc (.cells #[.int .i64 5, .int .i64 At, .slice (some ad2) nx cx] 119)) w2
            rw [HS1.out]
            exact hb2
          have HRN := Lib.hid hRn
          have HRO := Lib.hid (HR1.out.below HB2.out)
          have HM2 := Lib.hid (HM1.out.below HB2.out)
          have HBX2 := Lib.hid (HBX.out.below HB2.out (by rw [HS1.out]; omega))
          have hbl2 := hb1.trans (HB2.out.mono (by rw [HS1.out]; have := hbl.size; omega))
          clear hRn hb2 hbw2 HCP
          go_wp2_with fail
          refine (Same_any w2 HRN.out HRO.out).mono ?_
          rintro e w3 ⟨b3, rfl, hb3, hbw3⟩
          obtain rfl : b3 = true := hb3.2 ⟨fun _ _ => rfl, rfl⟩
          clear hb3
          have hz3 := hbw3.size
          have HRN3 := Lib.hid (HRN.out.below hbw3)
          have HRO3 := Lib.hid (HRO.out.below hbw3)
          have HM3 := Lib.hid (HM2.out.below hbw3)
          have HBX3 := Lib.hid (HBX2.out.below hbw3 (by omega))
          have hbl3 := hbl2.trans (hbw3.mono (by have := hbl.size; omega))
          have gc3 := HM3.out.cell ha
          obtain ⟨x1, hx1e⟩ : ∃ x1 : UInt8, x1 = m a + 1 := ⟨_, rfl⟩
          have hu1 : IntKind.u8.wrap (((m a).toNat : Int) + 1) = ((x1 : UInt8).toNat : Int) := by
            rw [hx1e, IntKind.wrap_u8, UInt8.toNat_add]
            have := (m a).toNat_lt
            simp
          have hu2 : (((m a).toNat : Int) + 1) % 256 = ((x1 : UInt8).toNat : Int) := by rw [← hu1, IntKind.wrap_u8]
          have HX1 := Lib.hid hx1e
          clear hx1e
          clear hbw3
          go_wp2_with fail
          clear hu1 hu2 gc3
          refine (Poke_a a x1 w3 HRO3.out (by have := hbl.size; omega) ha).mono ?_
          rintro e w4 ⟨rfl, hst⟩
          have hon := hst.only
          have hz4 := hon.size
          have hfar : ∀ q, wr.heap.size ≤ q → q < w3.heap.size → w4.heap[q]? = w3.heap[q]? := fun q h1 h2 => hon.block q h2 (by omega) fun i hi e => by have := HR.out.plt hi e; omega
          have HRN4 := Lib.hid (HRN3.out.same (hfar _ (by omega) (HRN3.out.blk.lt)) fun i b hi e => hfar b (by have := (HRN3.out.page i b hi e).2.1; omega) (HRN3.out.plt hi e))
          have HM4 := Lib.hid (HM3.out.same (hon.block gl HM3.out.lt hgg hap))
          have HBX4 : Hid (Blk w4 wr.heap.size 119 #[.int .i64 5, .int .i64 At, .slice (some ad2) nx cx]) := (hfar wr.heap.size (Nat.le_refl _) (by omega)).trans HBX3.out
          have hbl4 := hbl3.trans hst.below
          obtain ⟨pbo, cso, hRo4, _⟩ := hst.ram
          have HRO4 := Lib.hid hRo4
          clear hfar hon hst hRo4
          go_wp2_with fail
          refine (Same_any w4 HRN4.out HRO4.out).mono ?_
          rintro e w5 ⟨b5, rfl, hb5, hbw5⟩
          obtain rfl : b5 = false := by
            cases b5 with
            | false => rfl
            | true =>
              have h1 := (hb5.1 rfl).1 a ha
              unfold upd at h1
              rw [if_pos rfl] at h1
              have h2 : (m a).toNat = (m a + 1).toNat := by rw [← HX1.out, ← h1]
              rw [UInt8.toNat_add] at h2
              have := (m a).toNat_lt
              have h3 : (1 : UInt8).toNat = 1 := rfl
              omega
          clear hb5
          have HB3 : Hid (Both w.heap.size gl (wr.heap.size + 1) m rom w5) := ⟨⟨pbn, csn, (HRN4.out.below hbw5).weaken (by have := hbl.size; omega), fun i hi e => by have := (HRN4.out.page i gl hi e).2.1; omega⟩, HM4.out.below hbw5, by omega⟩
          have hbl5 := hbl4.trans (hbw5.mono (by have := hbl.size; omega))
          have hbx : Blk w5 wr.heap.size 119 #[.int .i64 5, .int .i64 At, .slice (some ad2) nx cx] := HBX4.out.below hbw5 (by omega)
          have hcb : ∀ j v, [Value.int .i64 5, .int .i64 At, .slice (some ad2) nx cx][j]? = some v → w5.cell? ((⟨wr.heap.size, 0, none⟩ : Addr).add j) = some v := fun j v hv => by rw [addr_add0, hbx.cell j]; simpa using hv
          clear hbx hbw5
          go_wp2_with (with_reducible refine wpList_load_at rfl 119 (.tmp 11) rfl ⟨wr.heap.size, 0, none⟩ rfl _ _ hcb Try.underlying119 rfl (by kernel_rfl) ?_)
          obtain ⟨⟨pb9, cs9, hR9, _⟩, hm9, _⟩ := HB3.out
          refine (told_any 5 At (.slice (some ad2) nx cx) w5 hR9 hm9 ha HA.out).mono ?_
          rintro e w9 ⟨rfl, hb9⟩
          have HB9 := Lib.hid (HB3.out.below hb9)
          have hbl9 := below_then hbl5 hb9
          clear hR9 hm9 hb9 hcb
          go_wp2_with fail
          go_roundw
          case rel => exact ⟨k + 1, _, _, by omega, by go_num, rfl, HB9.out, hbl9⟩
          case measure => simp [intOf]; omega
        have hd3 : (kind == 3) = false := by rw [beq_eq_false_iff_ne]; exact hk3
        have hd4 : (kind == 4) = false := by rw [beq_eq_false_iff_ne]; exact hk4
        have hd5 : (kind == 5) = false := by rw [beq_eq_false_iff_ne]; exact hk5
        clear hk3 hk4 hk5
        have hb1 : Below w.heap.size w (wr.alloc (.cells #[.int .i64 kind, .int .i64 At, .slice (some ad2) nx cx] 119)) := below_alloc' hbl
        have hbw1 : Below wr.heap.size wr (wr.alloc (.cells #[.int .i64 kind, .int .i64 At, .slice (some ad2) nx cx] 119)) := below_alloc (Below.refl _ wr) _
        have hc1 : (wr.alloc (.cells #[.int .i64 kind, .int .i64 At, .slice (some ad2) nx cx] 119)).cell? ad2 = some (.int .u8 (x0.toNat : Int)) := (hb1.cell (p := ad2) hab2).trans hc2
        have hR1 : RamAt w.heap.size g m rom pb cs (wr.alloc (.cells #[.int .i64 kind, .int .i64 At, .slice (some ad2) nx cx] 119)) := HR.out.below hbw1
        have hm1 : MemAt gl m (wr.alloc (.cells #[.int .i64 kind, .int .i64 At, .slice (some ad2) nx cx] 119)) := HM.out.below hbw1
        have HM1 := Lib.hid hm1
        have hs1 : (wr.alloc (.cells #[.int .i64 kind, .int .i64 At, .slice (some ad2) nx cx] 119)).heap.size = wr.heap.size + 1 := by simp
        have HS1 := Lib.hid hs1
        have HBX : Hid (Blk (wr.alloc (.cells #[.int .i64 kind, .int .i64 At, .slice (some ad2) nx cx] 119)) wr.heap.size 119 #[.int .i64 kind, .int .i64 At, .slice (some ad2) nx cx]) := Blk.new wr _ _
        clear hbw1 hm1 hs1
        have HWR := Lib.hid (Write_a a x0 _ hR1 (by rw [HS1.out]; omega) ha)
        clear hR1
        by_cases har : (a : Int) < rom
        · have HD : Hid (Calls Try.prog 91 #[.pointer (some ⟨g, 0, none⟩), .int .u16 (a : Int), .int .u8 (x0.toNat : Int)] (wr.alloc (.cells #[.int .i64 kind, .int .i64 At, .slice (some ad2) nx cx] 119)) fun e w' => e = .returned (.bool true) ∧ RamStep w.heap.size g (upd m a x0) rom pb (wr.alloc (.cells #[.int .i64 kind, .int .i64 At, .slice (some ad2) nx cx] 119)) w') := by
            have h := HWR.out
            rw [decide_eq_true har, if_pos har] at h
            exact h
          clear HWR
          have hR1 := HR.out.below (below_alloc (Below.refl _ wr) (.cells #[.int .i64 kind, .int .i64 At, .slice (some ad2) nx cx] 119))
          go_wp2_with (with_reducible refine wpList_load_at rfl 119 (.tmp 70) rfl (ad.add (k * 3)) rfl _ _ hcw Try.underlying119 rfl (by kernel_rfl) ?_)
          refine HD.out.mono ?_
          rintro e w2 ⟨rfl, hst⟩
          have hon := hst.only
          have hbxw2 : Blk w2 wr.heap.size 119 #[.int .i64 kind, .int .i64 At, .slice (some ad2) nx cx] := (hon.block wr.heap.size (by simp) (by omega) (fun i hi e => by have := HR.out.plt hi e; omega)).trans HBX.out
          obtain ⟨bx0, bx1, bx2⟩ := hbxw2.c3
          have hs2 : wr.heap.size + 1 ≤ w2.heap.size := by have := hon.size; rw [HS1.out] at this; exact this
          have hc2' := (hst.below.cell (p := ad2) hab2).trans hc1
          have hbl2 := hb1.trans hst.below
          have HH := Lib.hid (Both.step hR1 hap HM1.out hgg hst)
          have HX2 := Lib.hid hbxw2
          clear hst hon hR1 hbxw2 HD
          have gc := HH.out.mem.cell ha
          have gf := HH.out.mem.frozen a
          have hglt := HH.out.mem.lt
          have HB3 := Lib.hid (HH.out.set_ ha)
          have hbl3 := hbl2.setCell (p := ⟨gl, a, none⟩) hgl (.int .u8 (x0.toNat : Int))
          have hbx : Blk (w2.setCell ⟨gl, a, none⟩ (.int .u8 (x0.toNat : Int))) wr.heap.size 119 #[.int .i64 kind, .int .i64 At, .slice (some ad2) nx cx] := HX2.out.far (fun e => by dsimp only at e; omega) _
          have hcb : ∀ j v, [Value.int .i64 kind, .int .i64 At, .slice (some ad2) nx cx][j]? = some v → (w2.setCell ⟨gl, a, none⟩ (.int .u8 (x0.toNat : Int))).cell? ((⟨wr.heap.size, 0, none⟩ : Addr).add j) = some v := fun j v hv => by rw [addr_add0, hbx.cell j]; simpa using hv
          clear hbx hglt
          go_wp2_with (with_reducible refine wpList_load_at rfl 119 (.tmp 11) rfl ⟨wr.heap.size, 0, none⟩ rfl _ _ hcb Try.underlying119 rfl (by kernel_rfl) ?_)
          obtain ⟨⟨pb9, cs9, hR9, _⟩, hm9, _⟩ := HB3.out
          refine (told_any kind At (.slice (some ad2) nx cx) (w2.setCell ⟨gl, a, none⟩ (.int .u8 (x0.toNat : Int))) hR9 hm9 ha HA.out).mono ?_
          rintro e w9 ⟨rfl, hb9⟩
          have HB9 := Lib.hid (HB3.out.below hb9)
          have hbl9 := below_then hbl3 hb9
          clear hR9 hm9 hb9 hcb
          go_wp2_with fail
          go_roundw
          case rel => exact ⟨k + 1, _, _, by omega, by go_num, rfl, HB9.out, hbl9⟩
          case measure => simp [intOf]; omega
        · have HD : Hid (Calls Try.prog 91 #[.pointer (some ⟨g, 0, none⟩), .int .u16 (a : Int), .int .u8 (x0.toNat : Int)] (wr.alloc (.cells #[.int .i64 kind, .int .i64 At, .slice (some ad2) nx cx] 119)) fun e w' => e = .returned (.bool false) ∧ RamStep w.heap.size g m rom pb (wr.alloc (.cells #[.int .i64 kind, .int .i64 At, .slice (some ad2) nx cx] 119)) w') := by
            have h := HWR.out
            rw [decide_eq_false har, if_neg har] at h
            exact h
          clear HWR
          have har' : rom ≤ (a : Int) := by omega
          clear har
          have hR1 := HR.out.below (below_alloc (Below.refl _ wr) (.cells #[.int .i64 kind, .int .i64 At, .slice (some ad2) nx cx] 119))
          go_wp2_with (with_reducible refine wpList_load_at rfl 119 (.tmp 70) rfl (ad.add (k * 3)) rfl _ _ hcw Try.underlying119 rfl (by kernel_rfl) ?_)
          refine HD.out.mono ?_
          rintro e w2 ⟨rfl, hst⟩
          have hon := hst.only
          have hbxw2 : Blk w2 wr.heap.size 119 #[.int .i64 kind, .int .i64 At, .slice (some ad2) nx cx] := (hon.block wr.heap.size (by simp) (by omega) (fun i hi e => by have := HR.out.plt hi e; omega)).trans HBX.out
          obtain ⟨bx0, bx1, bx2⟩ := hbxw2.c3
          have hs2 : wr.heap.size + 1 ≤ w2.heap.size := by have := hon.size; rw [HS1.out] at this; exact this
          have hc2' := (hst.below.cell (p := ad2) hab2).trans hc1
          have hbl2 := hb1.trans hst.below
          have HH := Lib.hid (Both.step hR1 hap HM1.out hgg hst)
          have HX2 := Lib.hid hbxw2
          clear hst hon hR1 hbxw2 HD
          have HB3 : Hid (Both w.heap.size gl g m rom w2) := by
            obtain ⟨h1, h2, h3⟩ := HH.out
            exact ⟨h1, h2, h3⟩
          have hbx : Blk w2 wr.heap.size 119 #[.int .i64 kind, .int .i64 At, .slice (some ad2) nx cx] := HX2.out
          have hcb : ∀ j v, [Value.int .i64 kind, .int .i64 At, .slice (some ad2) nx cx][j]? = some v → w2.cell? ((⟨wr.heap.size, 0, none⟩ : Addr).add j) = some v := fun j v hv => by rw [addr_add0, hbx.cell j]; simpa using hv
          clear hbx
          go_wp2_with (with_reducible refine wpList_load_at rfl 119 (.tmp 11) rfl ⟨wr.heap.size, 0, none⟩ rfl _ _ hcb Try.underlying119 rfl (by kernel_rfl) ?_)
          obtain ⟨⟨pb9, cs9, hR9, _⟩, hm9, _⟩ := HB3.out
          refine (told_any kind At (.slice (some ad2) nx cx) w2 hR9 hm9 ha HA.out).mono ?_
          rintro e w9 ⟨rfl, hb9⟩
          have HB9 := Lib.hid (HB3.out.below hb9)
          have hbl9 := below_then hbl2 hb9
          clear hR9 hm9 hb9 hcb
          go_wp2_with fail
          go_roundw
          case rel => exact ⟨k + 1, _, _, by omega, by go_num, rfl, HB9.out, hbl9⟩
          case measure => simp [intOf]; omega
    · obtain rfl : k = N := by omega
      have HUS := Lib.hid (Used_any wr HR.out)
      have hle := usedN_len m 256
      clear hrc hlc HALL
      go_wp2_with fail
      refine HUS.out.mono ?_
      rintro e w3 ⟨v3, rfl, hown3, hb3⟩
      obtain ⟨A3, c3, rfl, hr3, _, _⟩ := own_reads hown3
      have hbl3 := below_then hbl hb3
      have HM3 := Lib.hid (HM.out.below hb3)
      have HR3 := Lib.hid (HR.out.below hb3)
      clear hb3 hown3 HUS
      go_wp2_with fail
      refine (usedL_any w3 HM3.out).mono ?_
      rintro e w4 ⟨v4, rfl, hown4, hb4⟩
      obtain ⟨A4, c4, rfl, hr4, _, _⟩ := own_reads hown4
      have hr34 := hr3.below hb4
      have hbl4 := below_then hbl3 hb4
      have HM4 := Lib.hid (HM3.out.below hb4)
      have HR4 := Lib.hid (HR3.out.below hb4)
      clear hb4 hown4 hr3
      generalize usedN m 256 = U at *
      generalize hUl : U.length = ul at *
      have HUL := Lib.hid hUl
      clear hUl
      go_wp2_with fail
      have HE := EqInt_any U U A3 A4 ul c3 ul c4 _ _ w4 hr34 hr4 (by omega) (by omega)
      rw [decide_eq_true (rfl : U = U)] at HE
      refine HE.mono ?_
      rintro e w5 ⟨rfl, hb5⟩
      have hbl5 := below_then hbl4 hb5
      have HM5 := Lib.hid (HM4.out.below hb5)
      have HR5 := Lib.hid (HR4.out.below hb5)
      clear hb5 hr34 hr4 HE
      have HPT : Hid (Calls Try.prog 95 #[.pointer (some ⟨g, 0, none⟩), .int .u16 0, .int .i64 70000] w5 fun e w' => ∃ v, e = .returned v ∧ w'.ownsRow w5.heap.size 5 1 v 65536 (bytesV (partL m 0 65536)) ∧ Below w5.heap.size w5 w') := Part_any 0 65536 70000 w5 HR5.out (.inr (.inr ⟨by omega, rfl⟩))
      go_wp2_with fail
      refine HPT.out.mono ?_
      rintro e w6 ⟨v6, rfl, hown6, hb6⟩
      obtain ⟨A6, c6, rfl, hr6, _, _⟩ := own_reads hown6
      have hbl6 := below_then hbl5 hb6
      have hrl := (HM5.out.below hb6).reads 0 65536 (by omega)
      rw [partL_all] at hrl
      clear hb6 hown6
      go_wp2_with fail
      refine (EqB_same (partL m 0 65536) A6 (some ⟨gl, 0, none⟩) 65536 c6 65536 _ _ w6 hr6 hrl).mono ?_
      rintro e w7 ⟨rfl, rfl⟩
      clear hr6 hrl
      go_wp2_with fail
      refine (alive32 _).mono ?_
      rintro e w8 ⟨rfl, hb8⟩
      go_wp2_with fail
      go_ret
      exact ⟨rfl, below_then hbl6 hb8⟩
end Go.Proofs.Ytgebopmiefgdoaa

/-
  Contract of phase.Behind.
  Contracts of core.posted, postbyte.
-/
import Derived.Test.YtkdaphkpllgmbaaGreatM15
import Derived.Test.YtkdaphkpllgmbaaGreatM12
import Derived.Test.YtkdaphkpllgmbaaGreatM08
import Derived.Test.YtkdaphkpllgmbaaGreatM04
import Derived.Test.YtkdaphkpllgmbaaGreatM21
import Derived.Deep.CutBlock
namespace Go.Proofs.YtkdaphkpllgmbaaGreat
open Go.RowKit Sp
set_option linter.unusedVariables false
attribute [local go_sem] Sp.Post.v Sp.Post.cells
/-- The box of the parameter stands, and nothing older has turned. -/
def PBox (w : World) (k rg off : Int) (ind : Bool) (W : World) : Prop := Blk W w.heap.size 271 #[.int .i64 k, .int .i64 rg, .int .u16 off, .bool ind] ∧ Below w.heap.size w W
theorem PBox.step {w W W' : World} {k rg off : Int} {ind : Bool} (h : PBox w k rg off ind W) (hb : Below W.heap.size W W') : PBox w k rg off ind W' := ⟨h.1.below hb h.1.lt, below_then h.2 hb⟩
theorem PBox.S {w W : World} {k rg off : Int} {ind : Bool} (h : PBox w k rg off ind W) :
    (W.cell? ⟨w.heap.size, 0, none⟩ = some (.int .i64 k) ∧ W.cell? ⟨w.heap.size, 1, none⟩ = some (.int .i64 rg) ∧ W.cell? ⟨w.heap.size, 2, none⟩ = some (.int .u16 off) ∧ W.cell? ⟨w.heap.size, 3, none⟩ = some (.bool ind)) ∧ PBox w k rg off ind W :=
  ⟨⟨h.1.cell 0, h.1.cell 1, h.1.cell 2, h.1.cell 3⟩, h⟩
theorem PBox.again {w W W' : World} {k rg off : Int} {ind : Bool}
    (h : (W.cell? ⟨w.heap.size, 0, none⟩ = some (.int .i64 k) ∧ W.cell? ⟨w.heap.size, 1, none⟩ = some (.int .i64 rg) ∧ W.cell? ⟨w.heap.size, 2, none⟩ = some (.int .u16 off) ∧ W.cell? ⟨w.heap.size, 3, none⟩ = some (.bool ind)) ∧ PBox w k rg off ind W) (hb : Below W.heap.size W W') :
    (W'.cell? ⟨w.heap.size, 0, none⟩ = some (.int .i64 k) ∧ W'.cell? ⟨w.heap.size, 1, none⟩ = some (.int .i64 rg) ∧ W'.cell? ⟨w.heap.size, 2, none⟩ = some (.int .u16 off) ∧ W'.cell? ⟨w.heap.size, 3, none⟩ = some (.bool ind)) ∧ PBox w k rg off ind W' := (h.2.step hb).S
theorem bytes_02 (p : Post) : 0 ≤ p.bytes ∧ p.bytes ≤ 2 := by unfold Post.bytes; (repeat' split) <;> omega
theorem idle_05 (p : Post) : 0 ≤ p.idle ∧ p.idle ≤ 5 := by unfold Post.idle; (repeat' split) <;> omega
theorem Row2r (l1 l2 : List Step) (A1 : Option Addr) (c1 : Nat) (A2 : Option Addr) (c2 : Nat) (W : World) (h1 : Reads W W.heap.size 2 A1 l1.length (stepsV l1)) (s1 : l1.length ≤ 100) (h2 : Reads W W.heap.size 2 A2 l2.length (stepsV l2)) (s2 : l2.length ≤ 100) (g : Nat) (hg : W.heap.size = g) :
    Calls Tryz.prog 139 #[.slice (some ⟨g, 0, none⟩) 2 2] (W.alloc (.cells #[.slice A1 l1.length c1, .slice A2 l2.length c2] 214)) (OwnSteps (l1 ++ l2) (W.alloc (.cells #[.slice A1 l1.length c1, .slice A2 l2.length c2] 214))) := by
  subst hg
  have b : Below W.heap.size W (W.alloc (.cells #[.slice A1 l1.length c1, .slice A2 l2.length c2] 214)) := below_alloc (Below.refl _ _) _
  have h := Row_t [⟨A1, l1.length, c1, l1⟩, ⟨A2, l2.length, c2, l2⟩] _ 2 2 (W.heap.size + 1) _ (Reads.new1 W 214 #[.slice A1 l1.length c1, .slice A2 l2.length c2] 2 (W.heap.size + 1) rfl (by omega)) (by simp)
    (by
      intro s hs
      simp only [List.mem_cons, List.not_mem_nil, or_false] at hs
      rcases hs with rfl | rfl
      · exact ⟨(h1.below b).more (by omega), rfl, s1⟩
      · exact ⟨(h2.below b).more (by omega), rfl, s2⟩) (by omega)
  refine h.mono fun e w' ho => ?_
  simpa [catL] using ho
def preB (B I : Int) : List Step := some_ 2 B ++ some_ 4 I
def preC (B I : Int) : List Step := preB B I ++ (first_ 11 ++ some_ 4 1)
theorem preB_small (B I : Int) (h0 : B ≤ 2) (h1 : I ≤ 5) : (preB B I).length ≤ 100 := by
  have a := some_len 2 B
  have b := some_len 4 I
  simp only [preB, List.length_append]
  omega
set_option maxRecDepth 100000 in
set_option maxHeartbeats 2000000 in
theorem behind_case (k rg off B I : Int) (ind : Bool) (w : World) (b0 : 0 ≤ B) (b1 : B ≤ 2) (i0 : 0 ≤ I) (i1 : I ≤ 5)
    (HB : Hid (∀ W : World, Calls Tryz.prog 198 #[.agg #[.int .i64 k, .int .i64 rg, .int .u16 off, .bool ind]] W fun e w' => e = .returned (.int .i64 B) ∧ Below W.heap.size W w'))
    (HI : Hid (∀ W : World, Calls Tryz.prog 231 #[.agg #[.int .i64 k, .int .i64 rg, .int .u16 off, .bool ind]] W fun e w' => e = .returned (.int .i64 I) ∧ Below W.heap.size W w')) :
    Calls Tryz.prog 193 #[.agg #[.int .i64 k, .int .i64 rg, .int .u16 off, .bool ind]] w (OwnSteps ((some_ 2 B ++ some_ 4 I) ++ (if ind then first_ 11 ++ some_ 4 1 else [])) w) := by
  cases ind
  · have HP : Hid (PBox w k rg off false (w.alloc (.cells #[.int .i64 k, .int .i64 rg, .int .u16 off, .bool false] 271))) := ⟨heap_alloc_new w _, below_alloc (Below.refl _ _) _⟩
    rw [show (some_ 2 B ++ some_ 4 I) ++ (if false = true then first_ 11 ++ some_ 4 1 else []) = preB B I from by simp [preB]]
    go_enter Tryz.func193, Tryz.ntmps193
    go_wp2
    go_region_held3 (fun W => (W.cell? ⟨w.heap.size, 0, none⟩ = some (.int .i64 k) ∧ W.cell? ⟨w.heap.size, 1, none⟩ = some (.int .i64 rg) ∧ W.cell? ⟨w.heap.size, 2, none⟩ = some (.int .u16 off) ∧ W.cell? ⟨w.heap.size, 3, none⟩ = some (.bool false)) ∧ PBox w k rg off false W)
      (first | exact (HP.out.step (Below.refl _ _).drew).S | exact PBox.again (by assumption) hbE | exact PBox.again (by assumption) hbD | exact PBox.again (by assumption) hbC | exact PBox.again (by assumption) hbB | exact PBox.again (by assumption) hbA | exact PBox.again (by assumption) (below_alloc (Below.refl _ _) _))
      (first
       | (go_at_call 198; refine (HB.out _).mono ?_; rintro e w1 ⟨rfl, hbA⟩)
       | (go_at_call 231; refine (HI.out _).mono ?_; rintro e w1 ⟨rfl, hbC⟩; replace hr1 := (hr1.below hbC).more hbC.size)
       | (go_at_call 157; with_reducible refine (Some_t 2 B b0 (by omega) _).mono ?_; rintro e w1 ho1; obtain ⟨A1, c1, rfl, hr1, hbB⟩ := ho1.got; clear ho1)
       | (go_at_call 157; with_reducible refine (Some_t 4 I i0 (by omega) _).mono ?_; rintro e w2 ho2; obtain ⟨A2, c2, rfl, hr2, hbD⟩ := ho2.got; clear ho2; replace hr1 := (hr1.below hbD).more hbD.size)
       | (go_at_call 139; refine (Row2r _ _ _ _ _ _ _ hr1 (some_small _ _ (by omega)) hr2 (some_small _ _ (by omega)) _ rfl).mono ?_; rintro e w3 ho3; replace ho3 : OwnSteps (preB B I) _ e w3 := ho3; obtain ⟨A3, c3, rfl, hown3, hbE⟩ := ho3.open_; clear ho3))
    obtain ⟨⟨q0, q1, q2, q3⟩, hPB⟩ : (w3.cell? ⟨w.heap.size, 0, none⟩ = some (.int .i64 k) ∧ w3.cell? ⟨w.heap.size, 1, none⟩ = some (.int .i64 rg) ∧ w3.cell? ⟨w.heap.size, 2, none⟩ = some (.int .u16 off) ∧ w3.cell? ⟨w.heap.size, 3, none⟩ = some (.bool false)) ∧ PBox w k rg off false w3 := by assumption
    have hlow : w.heap.size ≤ w2.heap.size + 1 := by have s1 := hbA.size; have s2 := hbB.size; have s3 := hbC.size; have s4 := hbD.size; simp at s1; omega
    go_wp2
    go_ret
    exact ⟨_, rfl, own_lower hown3 (by simpa using hlow), hPB.2⟩
  · have HP : Hid (PBox w k rg off true (w.alloc (.cells #[.int .i64 k, .int .i64 rg, .int .u16 off, .bool true] 271))) := ⟨heap_alloc_new w _, below_alloc (Below.refl _ _) _⟩
    rw [show (some_ 2 B ++ some_ 4 I) ++ (if true = true then first_ 11 ++ some_ 4 1 else []) = preC B I from by simp [preB, preC]]
    go_enter Tryz.func193, Tryz.ntmps193
    go_wp2
    go_region_held3 (fun W => (W.cell? ⟨w.heap.size, 0, none⟩ = some (.int .i64 k) ∧ W.cell? ⟨w.heap.size, 1, none⟩ = some (.int .i64 rg) ∧ W.cell? ⟨w.heap.size, 2, none⟩ = some (.int .u16 off) ∧ W.cell? ⟨w.heap.size, 3, none⟩ = some (.bool true)) ∧ PBox w k rg off true W)
      (first | exact (HP.out.step (Below.refl _ _).drew).S | exact PBox.again (by assumption) hbE | exact PBox.again (by assumption) hbD | exact PBox.again (by assumption) hbC | exact PBox.again (by assumption) hbB | exact PBox.again (by assumption) hbA | exact PBox.again (by assumption) (below_alloc (Below.refl _ _) _))
      (first
       | (go_at_call 198; refine (HB.out _).mono ?_; rintro e w1 ⟨rfl, hbA⟩)
       | (go_at_call 231; refine (HI.out _).mono ?_; rintro e w1 ⟨rfl, hbC⟩; replace hr1 := (hr1.below hbC).more hbC.size)
       | (go_at_call 157; with_reducible refine (Some_t 2 B b0 (by omega) _).mono ?_; rintro e w1 ho1; obtain ⟨A1, c1, rfl, hr1, hbB⟩ := ho1.got; clear ho1)
       | (go_at_call 157; with_reducible refine (Some_t 4 I i0 (by omega) _).mono ?_; rintro e w2 ho2; obtain ⟨A2, c2, rfl, hr2, hbD⟩ := ho2.got; clear ho2; replace hr1 := (hr1.below hbD).more hbD.size)
       | (go_at_call 139; refine (Row2r _ _ _ _ _ _ _ hr1 (some_small _ _ (by omega)) hr2 (some_small _ _ (by omega)) _ rfl).mono ?_; rintro e w3 ho3; replace ho3 : OwnSteps (preB B I) _ e w3 := ho3; obtain ⟨A3, c3, rfl, hown3, hbE⟩ := ho3.open_; clear ho3))
    obtain ⟨⟨q0, q1, q2, q3⟩, hPB⟩ : (w3.cell? ⟨w.heap.size, 0, none⟩ = some (.int .i64 k) ∧ w3.cell? ⟨w.heap.size, 1, none⟩ = some (.int .i64 rg) ∧ w3.cell? ⟨w.heap.size, 2, none⟩ = some (.int .u16 off) ∧ w3.cell? ⟨w.heap.size, 3, none⟩ = some (.bool true)) ∧ PBox w k rg off true w3 := by assumption
    have hr3 := (own_reads hown3)
    obtain ⟨A', c', hAc, hr3, _, _⟩ := hr3
    injection hAc with hA1 _ hA3
    subst hA1 hA3
    have hbt := hPB.2
    clear hbA hbB hbC hbD hbE hr1 hr2 hown3 hPB
    go_wp2_with fail
    refine (First_t 11 _).mono ?_
    rintro e w4 ho
    obtain ⟨A4, c4, rfl, hr4, hb4⟩ := ho.got
    clear ho
    replace hbt := below_then hbt hb4
    replace hr3 := (hr3.below hb4).more hb4.size
    clear hb4
    go_wp2_with fail
    refine (Some_t 4 1 (by omega) (by omega) _).mono ?_
    rintro e w5 ho
    obtain ⟨A5, c5, rfl, hr5, hb5⟩ := ho.got
    clear ho
    replace hbt := below_then hbt hb5
    replace hr3 := (hr3.below hb5).more hb5.size
    replace hr4 := (hr4.below hb5).more hb5.size
    clear hb5
    go_wp2_with fail
    refine (Row3 _ _ _ _ _ _ _ _ _ _ hr3 (preB_small B I b1 i1) hr4 (first_small _) hr5 (some_small _ _ (by omega)) _ rfl).mono ?_
    rintro e wz ho
    replace ho : OwnSteps (preC B I) _ e wz := ho
    obtain ⟨A6, c6, rfl, hown, hbl⟩ := ho.open_
    clear ho
    go_wp2
    go_ret
    exact ⟨_, rfl, own_lower hown hbt.size, below_then hbt hbl⟩
theorem behind_t (p : Post) (w : World) : Calls Tryz.prog 193 #[p.v] w (OwnSteps (behind p) w) := by
  have h1 := bytes_02 p
  have h2 := idle_05 p
  exact behind_case p.kind p.reg (p.off.toNat : Int) p.bytes p.idle p.ind w h1.1 h1.2 h2.1 h2.2 (Lib.hid (fun W => Bytes_t p W)) (Lib.hid (fun W => Idle_t p W))
end Go.Proofs.YtkdaphkpllgmbaaGreat
namespace Go.Proofs.YtkdaphkpllgmbaaGreat
open Go.RowKit Sp
set_option linter.unusedVariables false
set_option linter.unusedSimpArgs false
theorem ListOk.reads {w : World} {A : Option Addr} {l : List Part} (h : ListOk w A l) : Reads w w.heap.size 2 A l.length (partsV l) := by
  refine ⟨partsV_length l, fun hn => ?_⟩
  obtain ⟨g, off, cs, h1, h2, h3⟩ := h hn
  exact ⟨_, h1, h2.lt, fun j u hu => by have := (h2.cell (off + j)).trans (h3 j u hu); rw [show (⟨g, off, none⟩ : Addr).add j = ⟨g, off + j, none⟩ from by unfold Addr.add; split <;> simp_all]; exact this⟩
theorem posted_t (m : Int) (w : World) :
    Calls Tryz.prog 167 #[.int .i64 m] w fun e w' => e = .returned (.bool (posted m)) ∧ w = w' := by
  rcases (show m = 4 ∨ m = 8 ∨ m = 9 ∨ (m ≠ 4 ∧ m ≠ 8 ∧ m ≠ 9) from by omega) with rfl | rfl | rfl | ⟨h4, h8, h9⟩
  rotate_left 3
  · have b4 : (m == 4) = false := beq_eq_false_iff_ne.mpr h4
    have b8 : (m == 8) = false := beq_eq_false_iff_ne.mpr h8
    have b9 : (m == 9) = false := beq_eq_false_iff_ne.mpr h9
    rw [show posted m = false from by simp [posted, h4, h8, h9]]
    clear h4 h8 h9
    go_enter Tryz.func167, Tryz.ntmps167
    go_wp2
    go_ret
    exact ⟨rfl, rfl⟩
  all_goals
    go_enter Tryz.func167, Tryz.ntmps167
    go_wp2
    go_ret
    exact ⟨rfl, rfl⟩
set_option maxRecDepth 100000 in
set_option maxHeartbeats 1000000 in
theorem postbyte_4 {p : Nat} {s : Core} (b : UInt8) (w : World) (hC : CoreAt p s w) (hm : s.e.mode = 4) :
    Calls Tryz.prog 168 #[.pointer (some ⟨p, 0, none⟩), .int .u8 (b.toNat : Int)] w fun e w' => e = .returned (.tuple #[]) ∧ CoreAt p ((({ s with post := b } : Core).push (behind (postOf b))).push (tail s.e b s.r.cc)) w' ∧ w.grownBy w' (some p) := by
  have hC0 := Lib.hid (hC.set_post b)
  have hlt := hC.lt
  obtain ⟨ring, qa, lA, lc, hI⟩ := id hC; have F := core_facts hI
  rw [hm] at F
  clear hI hC hm
  go_enter Tryz.func168, Tryz.ntmps168
  go_wp2
  go_region_held3 (fun _ => True) (first | trivial | (go_keep; done)) (first | (go_at_call 194; refine (postOf_t b _).mono ?_; rintro e wP ⟨rfl, hbP⟩; have hCP := CoreAt.below (hC0.out.drew) hbP) | (go_at_call 193; refine (behind_t (postOf b) _).mono ?_; rintro e w8 ho; obtain ⟨A8, c8, rfl, hown8, hb8⟩ := ho.open_; clear ho; obtain ⟨A8', c8', hAc8, hr8, _, _⟩ := own_reads hown8; injection hAc8 with hA81 _ hA83; subst hA81 hA83; have hap8 := own_apart hown8 ((hCP).lt); have hC8 := CoreAt.below (hCP) hb8) | (go_at_call 112; refine (Push_core (behind (postOf b)) _ _ _ hC8 hr8 hap8 (behind_short _)).mono ?_; rintro e w9 ⟨rfl, hC9, hg9⟩))
  have hg1 := Lib.hid (grown_then (grown_then (grown_then (grown_drew w (grown_set w (World.grownBy.refl w (some p)) 64 (.int .u8 (b.toNat : Int)))) (grown_of_below hbP (some p))) (grown_of_below hb8 (some p))) hg9)
  obtain ⟨s1, hs1⟩ : ∃ s1, ({ s with post := b } : Core).push (behind (postOf b)) = s1 := ⟨_, rfl⟩
  rw [hs1] at hC9
  have HS1 := Lib.hid hs1
  have hC1 := Lib.hid hC9
  clear hs1 F hbP hCP hown8 hb8 hr8 hap8 hC8 hg9 hC0
  obtain ⟨ring1, qa1, lA1, lc1, hI1⟩ := id hC9; have F1 := core_facts hI1
  have hlt1 := hC9.lt
  clear hI1 hC9
  go_wp2
  go_region_held3 (fun W => W.cell? ⟨p, 61, none⟩ = some (.int .i64 s1.e.op) ∧ W.cell? ⟨p, 62, none⟩ = some (.int .i64 s1.e.mode) ∧ W.cell? ⟨p, 63, none⟩ = some (.int .i64 s1.e.reg) ∧ W.cell? ⟨p, 3, none⟩ = some (.int .u8 (s1.r.cc.toNat : Int))) (first | with_reducible exact ⟨k9_op, k9_mode, k9_reg, k9_cc⟩ | with_reducible exact ⟨k8_op, k8_mode, k8_reg, k8_cc⟩ | (go_keep; done) | assumption) (first | (go_at_call 165; refine (tail_t _ _ _ _ _ _).mono ?_; rintro e w8 ho; obtain ⟨A8, c8, rfl, hown8, hb8⟩ := ho.open_; clear ho; obtain ⟨A8', c8', hAc8, hr8, _, _⟩ := own_reads hown8; injection hAc8 with hA81 _ hA83; subst hA81 hA83; have hap8 := own_apart hown8 ((hC1.out.drew).lt); have hC8 := CoreAt.below (hC1.out.drew) hb8; have k8_op : w8.cell? ⟨p, 61, none⟩ = some (.int .i64 s1.e.op) := hC8.c_op; have k8_mode : w8.cell? ⟨p, 62, none⟩ = some (.int .i64 s1.e.mode) := hC8.c_mode; have k8_reg : w8.cell? ⟨p, 63, none⟩ = some (.int .i64 s1.e.reg) := hC8.c_reg; have k8_cc : w8.cell? ⟨p, 3, none⟩ = some (.int .u8 (s1.r.cc.toNat : Int)) := hC8.c_cc) | (go_at_call 112; refine (Push_core (tail s1.e b s1.r.cc) _ _ _ hC8 hr8 hap8 (tail_short _ _ _)).mono ?_; rintro e w9 ⟨rfl, hC9, hg9⟩; have k9_op : w9.cell? ⟨p, 61, none⟩ = some (.int .i64 s1.e.op) := hC9.c_op; have k9_mode : w9.cell? ⟨p, 62, none⟩ = some (.int .i64 s1.e.mode) := hC9.c_mode; have k9_reg : w9.cell? ⟨p, 63, none⟩ = some (.int .i64 s1.e.reg) := hC9.c_reg; have k9_cc : w9.cell? ⟨p, 3, none⟩ = some (.int .u8 (s1.r.cc.toNat : Int)) := hC9.c_cc))
  go_wp2_with fail
  first | go_end0 | refine bodyPost_ret (results_none rfl _ _ _) rfl ?_
  exact ⟨rfl, CoreAt.congr hC9 (by rw [← HS1.out]; rfl), grown_then (grown_then (grown_drew w hg1.out) (grown_of_below hb8 (some p))) hg9⟩
theorem CoreAt.blk_ {p : Nat} {s : Core} {w : World} (h : CoreAt p s w) : ∃ cs, Blk w p 209 cs := by obtain ⟨_, _, _, _, h⟩ := h; exact ⟨_, h.blk⟩
theorem ListOk.at_core {p : Nat} {s : Core} {w : World} {A : Option Addr} {l : List Part} (h : ListOk w A l) (hC : CoreAt p s w) (o : Nat) (u : Value) : ListOk (w.setCell ⟨p, o, none⟩ u) A l := by obtain ⟨_, hb⟩ := hC.blk_; exact h.far hb core_part o u
set_option maxRecDepth 100000 in
set_option maxHeartbeats 1000000 in
theorem postbyte_9a {p : Nat} {s : Core} (b : UInt8) (w : World) (hC : CoreAt p s w) (hm : s.e.mode = 9) (hop : s.e.op = 30) :
    Calls Tryz.prog 168 #[.pointer (some ⟨p, 0, none⟩), .int .u8 (b.toNat : Int)] w fun e w' => e = .returned (.tuple #[]) ∧ CoreAt p (({ s with post := b, stack := s.e.reg, list := (order b s.e.reg).reverse } : Core).push (tail s.e b s.r.cc)) w' ∧ w.grownBy w' (some p) := by
  have hC0 := Lib.hid ((hC.set_post b).set_stack s.e.reg)
  have hlt := hC.lt
  have b30 : (s.e.op == 30) = true := by rw [hop]; rfl
  obtain ⟨ring, qa, lA, lc, hI⟩ := id hC; have F := core_facts hI
  rw [hm] at F
  clear hI hC hm hop
  go_enter Tryz.func168, Tryz.ntmps168
  go_wp2_with fail
  refine (Order_t b s.e.reg _).mono ?_
  rintro e w5 ho
  obtain ⟨oA5, oc5, rfl, hown5, hb5⟩ := ho.open_
  clear ho
  have hC5 := CoreAt.below hC0.out hb5
  have hg5 := grown_then (grown_set w (grown_set w (World.grownBy.refl w (some p)) 64 (.int .u8 (b.toNat : Int))) 71 (.int .i64 s.e.reg)) (grown_of_below hb5 (some p))
  clear F
  obtain ⟨ring5, qa5, lA5, lc5, hI5⟩ := id hC5; have F5 := core_facts hI5
  clear hI5
  have hC6 := CoreAt.set_list hC5 oA5 oc5 _ (ListOk.own hown5) (own_cap hown5)
  have hg6 := Lib.hid (grown_set w hg5 70 (.slice oA5 (order b s.e.reg).length oc5))
  have hlt5 := hC5.lt
  have hlo := (ListOk.own hown5).at_core hC5 70 (.slice oA5 (order b s.e.reg).length oc5)
  have HRV := Lib.hid (reversed_t (order b s.e.reg) oA5 _ oc5 _ (w5.setCell ⟨p, 70, none⟩ (.slice oA5 (order b s.e.reg).length oc5)) hlo.reads (Nat.le_refl _) rfl (order_short _ _))
  have hC6h := Lib.hid hC6
  clear hC5 hg5 hown5 hb5 hC6 hlo
  go_wp2_with fail
  refine HRV.out.mono ?_
  rintro e w7 ho
  obtain ⟨oA7, oc7, rfl, hown7, hb7⟩ := ho.open_
  clear ho
  have hC7 := CoreAt.below hC6h.out hb7
  have hg7 := grown_then hg6.out (grown_of_below hb7 (some p))
  clear F5 HRV
  obtain ⟨ring7, qa7, lA7, lc7, hI7⟩ := id hC7; have F7 := core_facts hI7
  clear hI7
  have hlt7 := hC7.lt
  have hC6 := CoreAt.set_list hC7 oA7 oc7 _ (ListOk.own hown7) (own_cap hown7)
  rw [List.length_reverse] at hC6
  have hg6 := Lib.hid (grown_set w hg7 70 (.slice oA7 (order b s.e.reg).length oc7))
  clear hC7 hg7 hown7 hb7 hC6h
  have hC1 := Lib.hid hC6
  have hlt1 := hC6.lt
  clear hC6
  go_wp2
  clear F7
  obtain ⟨ring1, qa1, lA1, lc1, hI1⟩ := id hC1.out; have F1 := core_facts hI1
  clear hI1
  go_region_held3 (fun W => W.cell? ⟨p, 61, none⟩ = some (.int .i64 s.e.op) ∧ W.cell? ⟨p, 62, none⟩ = some (.int .i64 s.e.mode) ∧ W.cell? ⟨p, 63, none⟩ = some (.int .i64 s.e.reg) ∧ W.cell? ⟨p, 3, none⟩ = some (.int .u8 (s.r.cc.toNat : Int))) (first | with_reducible exact ⟨k9_op, k9_mode, k9_reg, k9_cc⟩ | with_reducible exact ⟨k8_op, k8_mode, k8_reg, k8_cc⟩ | (go_keep; done) | assumption) (first | (go_at_call 165; refine (tail_t _ _ _ _ _ _).mono ?_; rintro e w8 ho; obtain ⟨A8, c8, rfl, hown8, hb8⟩ := ho.open_; clear ho; obtain ⟨A8', c8', hAc8, hr8, _, _⟩ := own_reads hown8; injection hAc8 with hA81 _ hA83; subst hA81 hA83; have hap8 := own_apart hown8 ((hC1.out.drew).lt); have hC8 := CoreAt.below (hC1.out.drew) hb8; have k8_op : w8.cell? ⟨p, 61, none⟩ = some (.int .i64 s.e.op) := hC8.c_op; have k8_mode : w8.cell? ⟨p, 62, none⟩ = some (.int .i64 s.e.mode) := hC8.c_mode; have k8_reg : w8.cell? ⟨p, 63, none⟩ = some (.int .i64 s.e.reg) := hC8.c_reg; have k8_cc : w8.cell? ⟨p, 3, none⟩ = some (.int .u8 (s.r.cc.toNat : Int)) := hC8.c_cc) | (go_at_call 112; refine (Push_core (tail s.e b s.r.cc) _ _ _ hC8 hr8 hap8 (tail_short _ _ _)).mono ?_; rintro e w9 ⟨rfl, hC9, hg9⟩; have k9_op : w9.cell? ⟨p, 61, none⟩ = some (.int .i64 s.e.op) := hC9.c_op; have k9_mode : w9.cell? ⟨p, 62, none⟩ = some (.int .i64 s.e.mode) := hC9.c_mode; have k9_reg : w9.cell? ⟨p, 63, none⟩ = some (.int .i64 s.e.reg) := hC9.c_reg; have k9_cc : w9.cell? ⟨p, 3, none⟩ = some (.int .u8 (s.r.cc.toNat : Int)) := hC9.c_cc))
  go_wp2_with fail
  first | go_end0 | refine bodyPost_ret (results_none rfl _ _ _) rfl ?_
  exact ⟨rfl, CoreAt.congr hC9 rfl, grown_then (grown_then (grown_drew w hg6.out) (grown_of_below hb8 (some p))) hg9⟩
set_option maxRecDepth 100000 in
set_option maxHeartbeats 1000000 in
theorem postbyte_9b {p : Nat} {s : Core} (b : UInt8) (w : World) (hC : CoreAt p s w) (hm : s.e.mode = 9) (hop : s.e.op ≠ 30) :
    Calls Tryz.prog 168 #[.pointer (some ⟨p, 0, none⟩), .int .u8 (b.toNat : Int)] w fun e w' => e = .returned (.tuple #[]) ∧ CoreAt p (({ s with post := b, stack := s.e.reg, list := order b s.e.reg } : Core).push (tail s.e b s.r.cc)) w' ∧ w.grownBy w' (some p) := by
  have hC0 := Lib.hid ((hC.set_post b).set_stack s.e.reg)
  have hlt := hC.lt
  have b30 : (s.e.op == 30) = false := beq_eq_false_iff_ne.mpr hop
  obtain ⟨ring, qa, lA, lc, hI⟩ := id hC; have F := core_facts hI
  rw [hm] at F
  clear hI hC hm hop
  go_enter Tryz.func168, Tryz.ntmps168
  go_wp2_with fail
  refine (Order_t b s.e.reg _).mono ?_
  rintro e w5 ho
  obtain ⟨oA5, oc5, rfl, hown5, hb5⟩ := ho.open_
  clear ho
  have hC5 := CoreAt.below hC0.out hb5
  have hg5 := grown_then (grown_set w (grown_set w (World.grownBy.refl w (some p)) 64 (.int .u8 (b.toNat : Int))) 71 (.int .i64 s.e.reg)) (grown_of_below hb5 (some p))
  clear F
  obtain ⟨ring5, qa5, lA5, lc5, hI5⟩ := id hC5; have F5 := core_facts hI5
  clear hI5
  have hC6 := CoreAt.set_list hC5 oA5 oc5 _ (ListOk.own hown5) (own_cap hown5)
  have hg6 := Lib.hid (grown_set w hg5 70 (.slice oA5 (order b s.e.reg).length oc5))
  have hlt5 := hC5.lt
  clear hC5 hg5 hown5 hb5
  have hC1 := Lib.hid hC6
  have hlt1 := hC6.lt
  clear hC6
  go_wp2
  clear F5
  obtain ⟨ring1, qa1, lA1, lc1, hI1⟩ := id hC1.out; have F1 := core_facts hI1
  clear hI1
  go_region_held3 (fun W => W.cell? ⟨p, 61, none⟩ = some (.int .i64 s.e.op) ∧ W.cell? ⟨p, 62, none⟩ = some (.int .i64 s.e.mode) ∧ W.cell? ⟨p, 63, none⟩ = some (.int .i64 s.e.reg) ∧ W.cell? ⟨p, 3, none⟩ = some (.int .u8 (s.r.cc.toNat : Int))) (first | with_reducible exact ⟨k9_op, k9_mode, k9_reg, k9_cc⟩ | with_reducible exact ⟨k8_op, k8_mode, k8_reg, k8_cc⟩ | (go_keep; done) | assumption) (first | (go_at_call 165; refine (tail_t _ _ _ _ _ _).mono ?_; rintro e w8 ho; obtain ⟨A8, c8, rfl, hown8, hb8⟩ := ho.open_; clear ho; obtain ⟨A8', c8', hAc8, hr8, _, _⟩ := own_reads hown8; injection hAc8 with hA81 _ hA83; subst hA81 hA83; have hap8 := own_apart hown8 ((hC1.out.drew).lt); have hC8 := CoreAt.below (hC1.out.drew) hb8; have k8_op : w8.cell? ⟨p, 61, none⟩ = some (.int .i64 s.e.op) := hC8.c_op; have k8_mode : w8.cell? ⟨p, 62, none⟩ = some (.int .i64 s.e.mode) := hC8.c_mode; have k8_reg : w8.cell? ⟨p, 63, none⟩ = some (.int .i64 s.e.reg) := hC8.c_reg; have k8_cc : w8.cell? ⟨p, 3, none⟩ = some (.int .u8 (s.r.cc.toNat : Int)) := hC8.c_cc) | (go_at_call 112; refine (Push_core (tail s.e b s.r.cc) _ _ _ hC8 hr8 hap8 (tail_short _ _ _)).mono ?_; rintro e w9 ⟨rfl, hC9, hg9⟩; have k9_op : w9.cell? ⟨p, 61, none⟩ = some (.int .i64 s.e.op) := hC9.c_op; have k9_mode : w9.cell? ⟨p, 62, none⟩ = some (.int .i64 s.e.mode) := hC9.c_mode; have k9_reg : w9.cell? ⟨p, 63, none⟩ = some (.int .i64 s.e.reg) := hC9.c_reg; have k9_cc : w9.cell? ⟨p, 3, none⟩ = some (.int .u8 (s.r.cc.toNat : Int)) := hC9.c_cc))
  go_wp2_with fail
  first | go_end0 | refine bodyPost_ret (results_none rfl _ _ _) rfl ?_
  exact ⟨rfl, CoreAt.congr hC9 rfl, grown_then (grown_then (grown_drew w hg6.out) (grown_of_below hb8 (some p))) hg9⟩
set_option maxRecDepth 100000 in
set_option maxHeartbeats 1000000 in
theorem postbyte_x {p : Nat} {s : Core} (b : UInt8) (w : World) (hC : CoreAt p s w) (h4 : s.e.mode ≠ 4) (h9 : s.e.mode ≠ 9) :
    Calls Tryz.prog 168 #[.pointer (some ⟨p, 0, none⟩), .int .u8 (b.toNat : Int)] w fun e w' => e = .returned (.tuple #[]) ∧ CoreAt p ({ s with post := b }) w' ∧ w.grownBy w' (some p) := by
  have hC0 := Lib.hid (hC.set_post b)
  have hlt := hC.lt
  have b4 : (s.e.mode == 4) = false := beq_eq_false_iff_ne.mpr h4
  have b9 : (s.e.mode == 9) = false := beq_eq_false_iff_ne.mpr h9
  obtain ⟨ring, qa, lA, lc, hI⟩ := id hC; have F := core_facts hI
  clear hI hC h4 h9
  go_enter Tryz.func168, Tryz.ntmps168
  go_wp2
  first | go_end0 | refine bodyPost_ret (results_none rfl _ _ _) rfl ?_
  exact ⟨rfl, hC0.out, grown_set w (World.grownBy.refl w (some p)) 64 (.int .u8 (b.toNat : Int))⟩
set_option maxRecDepth 100000 in
set_option maxHeartbeats 1000000 in
theorem postbyte_t {p : Nat} {s : Core} (b : UInt8) (w : World) (hC : CoreAt p s w) :
    Calls Tryz.prog 168 #[.pointer (some ⟨p, 0, none⟩), .int .u8 (b.toNat : Int)] w fun e w' => e = .returned (.tuple #[]) ∧ CoreAt p (s.postbyte b) w' ∧ w.grownBy w' (some p) := by
  by_cases h4 : s.e.mode = 4
  · rw [show s.postbyte b = ((({ s with post := b } : Core).push (behind (postOf b))).push (tail s.e b s.r.cc)) from by unfold Core.postbyte; simp [h4]]; exact postbyte_4 b w hC h4
  by_cases h9 : s.e.mode = 9
  · by_cases h30 : s.e.op = 30
    · rw [show s.postbyte b = (({ s with post := b, stack := s.e.reg, list := (order b s.e.reg).reverse } : Core).push (tail s.e b s.r.cc)) from by unfold Core.postbyte; simp [h9, h30]]; exact postbyte_9a b w hC h9 h30
    · rw [show s.postbyte b = (({ s with post := b, stack := s.e.reg, list := order b s.e.reg } : Core).push (tail s.e b s.r.cc)) from by unfold Core.postbyte; simp [h9, h30]]; exact postbyte_9b b w hC h9 h30
  · rw [show s.postbyte b = { s with post := b } from by unfold Core.postbyte; simp [h4, h9]]; exact postbyte_x b w hC h4 h9
end Go.Proofs.YtkdaphkpllgmbaaGreat

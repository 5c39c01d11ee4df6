/-
  The walk of the law QueuePlays: for every row and calls it returns true.
-/
import Derived.Test.YtgebopmiefgdoaaQueue3
import Derived.Test.YtgebopmiefgdoaaDec
namespace Go.Proofs.Ytgebopmiefgdoaa
open Go.RowKit
theorem int64_in {W : World} {s : Sl Int} (g : s.Good W 1 int64Cell int64Good) : Reads W W.heap.size 1 s.a s.n (intsV s.ys) := by
  have h := g.reads
  rw [show s.ys.flatMap int64Cell = intsV s.ys from flat_one s.ys] at h
  exact h
theorem add_elem (ad : Addr) (m : Nat) : (⟨(ad.add m).block, (ad.add m).off + 1, none⟩ : Addr) = ad.add (m + 1) := by
  unfold Addr.add
  by_cases h : m = 0 <;> simp [h, Nat.add_assoc]
set_option maxRecDepth 100000 in
set_option maxHeartbeats 8000000 in
theorem QueuePlays_walk (w : World) (first : Sl Int) (gf : first.Good w 1 int64Cell int64Good) (calls : Sl QueueOp) (gc : calls.Good w 2 QueueOp.cells (QueueOp.Good w)) :
    Calls Try.prog 11 #[first.v, calls.v] w fun e w' => e = .returned (.bool true) ∧ Below w.heap.size w w' := by
  have hrf := int64_in gf
  obtain ⟨Af, nf, cf, xf⟩ := first
  obtain ⟨_, hcmf, _, hlf, _⟩ := gf
  obtain ⟨Ac, N, cc, ops⟩ := calls
  obtain ⟨_, hcm, hrc, hlc, hall⟩ := gc
  dsimp only [Sl.v] at *
  obtain ⟨i0, hi, hz0, hz1, hz2⟩ := info_parts info_int
  unfold maxLen at *
  by_cases hN : 80 < N
  · go_enter Try.func11, Try.ntmps11
    go_wp2
    go_ret
    exact ⟨rfl, Below.refl _ _⟩
  by_cases hnf : 60 < nf
  · go_enter Try.func11, Try.ntmps11
    go_wp2
    go_ret
    exact ⟨rfl, Below.refl _ _⟩
  have HO := Of_any xf Af nf cf w.heap.size w hrf (Nat.le_refl _) (by omega)
  by_cases hf : nf ≤ 24
  · simp only [if_pos hf] at HO
    have HOF := Lib.hid HO
    clear HO
    have hrc' : Reads w w.heap.size 2 Ac N (ops.flatMap QueueOp.cells) := hrc
    have HALL := Lib.hid hall
    clear hall hrc
    go_enter Try.func11, Try.ntmps11
    go_wp2_with fail
    refine HOF.out.mono ?_
    rintro e w1 ⟨hbl1, rfl, cs0, a0, hb0, hq0⟩
    have hs1 := hbl1.size
    have hg1 := hb0.lt
    go_wp2_with fail
    refine (Clone_any xf Af nf cf w.heap.size w1 (hrf.below hbl1) hs1 (by omega)).mono ?_
    rintro e w2 ⟨v, rfl, hown, hbl2⟩
    obtain ⟨A0, c0, rfl, hr0, hnc0, hcm0⟩ := own_reads hown
    have hne0 : 0 < nf → ∀ ad, A0 = some ad → ad.block ≠ w.heap.size := fun _ ad e => by
      subst e
      have := (hown.lt ad.block rfl).1
      omega
    have hb2 := hb0.below hbl2 hg1
    have hbl := hbl1.trans (hbl2.mono hs1)
    have hlen0 : xf.length = nf := hlf
    clear HOF hown
    go_wp2
    go_loopw [7, 8] (fun v i wr => ∃ (k n c a : Nat) (A : Option Addr) (L : List Int) (cs : Array Value), k ≤ N ∧ i = .int .i64 k ∧ v = .slice A n c ∧ L.length = n ∧ n ≤ c ∧ c ≤ maxLen ∧ Reads wr wr.heap.size 1 A n (intsV L) ∧ (0 < n → ∀ ad, A = some ad → ad.block ≠ w.heap.size) ∧ Blk wr w.heap.size 152 cs ∧ QOf cs L a ∧ Below w.heap.size w wr) (fun _ i _ => N - (intOf i).toNat)
    case atStart => exact ⟨0, nf, c0, a0, A0, xf, cs0, by omega, rfl, rfl, hlen0, hnc0, hcm0, hr0, hne0, hb2, hq0, hbl⟩
    case round =>
      clear hb0 hb2 hbl hbl1 hbl2 hr0 hne0 hq0 hnc0 hcm0 hlen0
      obtain ⟨k, n, c, a, A, L, cs, hk, rfl, rfl, hlen, hnc, hcmL, hrL, hneL, hbQ, hqQ, hbl⟩ := hrel
      have hg := hbQ.lt
      have hL24 := hqQ.hl
      by_cases hkN : k < N
      · obtain ⟨ad, y, rfl, had, hy, hcells⟩ := Reads.elem (size := 2) QueueOp.cells_len (by omega) hrc' hkN
        have hgy := HALL.out y (List.mem_of_getElem? hy)
        obtain ⟨kind, ⟨Ax, nx, cx, xs⟩⟩ := y
        have hrx := int64_in hgy.l
        have hlx : xs.length = nx := hgy.l.len
        have hkind := hgy.kind
        have hcx := hgy.l.cm
        have q0 := hcells 0 _ rfl
        have q1 := hcells 1 _ rfl
        have q0' := (hbl.cell (p := ad.add (k * 2 + 0)) (by rw [block_of_add]; omega)).trans q0
        have q1' := (hbl.cell (p := ad.add (k * 2 + 1)) (by rw [block_of_add]; omega)).trans q1
        dsimp only [Sl.v] at *
        clear hgy hcells q0 q1 hy
        rw [← add_elem] at q1'
        rw [show k * 2 + 0 = k * 2 from rfl] at q0'
        -- BEGIN ROUND
        have hi1 : (k : Int) < (N : Int) := by omega
        have hcmL' : c ≤ 9223372036854775807 := hcmL
        by_cases hx40 : 40 < nx
        · go_wp2
          go_ret
          exact ⟨rfl, hbl⟩
        have hneX : 0 < nx → ∀ ad', Ax = some ad' → ad'.block ≠ w.heap.size := fun h0 ad' e => by
          obtain ⟨ad2, e2, hb', _⟩ := hrx.2 h0
          rw [e] at e2
          injection e2 with e2
          subst e2
          omega
        by_cases hk2 : kind = 2
        · subst hk2
          by_cases hfit : n + nx ≤ 24
          · have hfi : (n : Int) + (nx : Int) ≤ 24 := by omega
            go_wp2_with fail
            as_aux_lemma =>
              refine (Front_any w.heap.size cs L xs a Ax nx cx w.heap.size wr hbQ hqQ (hrx.below hbl) (Nat.le_of_lt hg) hneX (by omega)).mono ?_
              rintro e f1 ⟨rfl, hgf, csT, aT, hbf, hqf⟩
              have hblf := hbl.grown hgf (Nat.le_of_lt hg) (fun k hk => by injection hk with hk; omega)
              have hrLf := (hrL.grown_ hgf hneL (Nat.le_refl _)).more hgf.size
              have hd1 : decide (L.length + xs.length ≤ 24) = true := decide_eq_true (by omega)
              rw [hd1]
              clear hd1
              rw [if_pos (by omega)] at hqf
              go_wp2_with fail
              refine (Clone_any xs Ax nx cx w.heap.size f1 (hrx.below hblf) hblf.size (by omega)).mono ?_
              rintro e f2 ⟨v2, rfl, hown2, hb2f⟩
              go_wp2_with (first | (at_builtin; refine wpList_append_any _ rfl (.tmp 92) (.tmp 93) 83 rfl f1.heap.size 3 i0 (.int .i64 0) 1 8 Try.underlying83 hi hz0 hz1 hz2 rfl (by omega) _ nx (intsV xs) rfl hown2 f1.heap.size A n c (intsV L) rfl (hrLf.below hb2f) (intsV_one L) (by simp only [maxLen]; omega) (by omega) hb2f.size ?_; intro v3 WT hown3 hg3 hat3))
              obtain ⟨AT, cT, rfl, hrT0, hncT, hcmT⟩ := own_reads hown3
              have hneT : 0 < nx + n → ∀ ad, AT = some ad → ad.block ≠ w.heap.size := fun _ ad e => by
                subst e
                have h1 := (hown3.lt ad.block rfl).1
                have h2 := hbf.lt
                omega
              have hbT := (hbf.below hb2f hbf.lt).grown hg3 (fun e => by have h1 := (hown2.lt _ e.symm).1; have h2 := hbf.lt; omega)
              have hblT := (below_then hblf hb2f).grown hg3 (below_then hblf hb2f).size (fun k hk => by have h1 := (hown2.lt k hk).1; have h2 := hblf.size; omega)
              obtain ⟨LT, hLTe⟩ : ∃ LT, LT = xs ++ L := ⟨_, rfl⟩
              have hqT := hqf
              rw [← hLTe] at hqT
              have hrT : Reads WT WT.heap.size 1 AT (nx + n) (intsV LT) := by rw [hLTe]; simpa [intsV] using hrT0
              have hlT : LT.length = nx + n := by rw [hLTe, List.length_append]; omega
              clear hown3 hown2 hg3 hat3 hqf hbf hrT0 hLTe hrL hqQ hbQ hbl hblf hb2f hrLf
              generalize nx + n = nT at *

              rcases LT with _ | ⟨x1, t1⟩
              · obtain rfl : nT = 0 := by rw [← hlT]; rfl
                have hlT2 : ([] : List Int).length = 0 := rfl
                clear hlT
                refine (Peek_any w.heap.size csT [] aT WT hbT hqT).mono ?_
                rintro e p1 ⟨rfl, hp1⟩
                have hbp1 := (hbT).below hp1 (hbT).lt
                have hrp1 := (hrT).below hp1
                go_wp2_with fail
                refine (QLen_n w.heap.size csT [] aT 0 p1 hbp1 hqT hlT2).mono ?_
                rintro e p2 ⟨rfl, hp2⟩
                have hbp2 := hbp1.below hp2 hbp1.lt
                have hzp := hp1.size
                go_wp2_with fail
                refine (QAll_n w.heap.size csT [] aT 0 p2 hbp2 hqT hlT2).mono ?_
                rintro e p3 ⟨A9, c9, rfl, hr9, hp3⟩
                have hp13 := (hp2.trans (hp3.mono hp2.size)).mono hzp
                have hp03 := hp1.trans hp13
                have hrt := (hrT).below hp03
                have h24T : 0 ≤ 24 := by have h := (hqT).hl; have h2 : ([] : List Int).length = 0 := hlT2; omega
                go_wp2_with fail
                refine (EqSame [] A9 _ 0 c9 cT _ _ p3 hr9 hrt h24T).mono ?_
                rintro e p4 ⟨rfl, hp4⟩
                have hp04 := below_then hp03 hp4
                go_wp2_with fail
                go_roundw
                case rel => exact ⟨k + 1, 0, cT, aT, _, [], csT, by omega, by go_num, rfl, hlT2, hncT, hcmT, ((hrT).below hp04).more hp04.size, hneT, (hbT).below hp04 (hbT).lt, hqT, below_then hblT hp04⟩
                case measure => simp [intOf]; omega
              · have hlT2 : (x1 :: t1).length = nT := hlT
                clear hlT
                have hpos : (0 : Int) < (nT : Int) := by simp at hlT2; omega
                refine (Peek_any w.heap.size csT (x1 :: t1) aT WT hbT hqT).mono ?_
                rintro e p1 ⟨rfl, hp1⟩
                have hbp1 := (hbT).below hp1 (hbT).lt
                have hrp1 := (hrT).below hp1
                obtain ⟨adT, xT, hAT, _, hxT, hcT⟩ := ints_at hrp1 (k := 0) (by omega)
                cases hAT
                obtain rfl : x1 = xT := by simpa using hxT
                have hcT' : p1.cell? adT = some (.int .i64 x1) := hcT
                go_wp2_with fail
                refine (QLen_n w.heap.size csT (x1 :: t1) aT nT p1 hbp1 hqT hlT2).mono ?_
                rintro e p2 ⟨rfl, hp2⟩
                have hbp2 := hbp1.below hp2 hbp1.lt
                have hzp := hp1.size
                go_wp2_with fail
                refine (QAll_n w.heap.size csT (x1 :: t1) aT nT p2 hbp2 hqT hlT2).mono ?_
                rintro e p3 ⟨A9, c9, rfl, hr9, hp3⟩
                have hp13 := (hp2.trans (hp3.mono hp2.size)).mono hzp
                have hp03 := hp1.trans hp13
                have hrt := (hrT).below hp03
                have h24T : nT ≤ 24 := by have h := (hqT).hl; have h2 : ((x1 :: t1) : List Int).length = nT := hlT2; omega
                go_wp2_with fail
                refine (EqSame (x1 :: t1) A9 _ nT c9 cT _ _ p3 hr9 hrt h24T).mono ?_
                rintro e p4 ⟨rfl, hp4⟩
                have hp04 := below_then hp03 hp4
                go_wp2_with fail
                go_roundw
                case rel => exact ⟨k + 1, nT, cT, aT, _, (x1 :: t1), csT, by omega, by go_num, rfl, hlT2, hncT, hcmT, ((hrT).below hp04).more hp04.size, hneT, (hbT).below hp04 (hbT).lt, hqT, below_then hblT hp04⟩
                case measure => simp [intOf]; omega
          · have hfi : decide ((n : Int) + (nx : Int) ≤ 24) = false := decide_eq_false (by omega)
            go_wp2_with fail
            as_aux_lemma =>
              refine (Front_any w.heap.size cs L xs a Ax nx cx w.heap.size wr hbQ hqQ (hrx.below hbl) (Nat.le_of_lt hg) hneX (by omega)).mono ?_
              rintro e f1 ⟨rfl, hgf, csT, aT, hbf, hqf⟩
              have hblf := hbl.grown hgf (Nat.le_of_lt hg) (fun k hk => by injection hk with hk; omega)
              have hrLf := (hrL.grown_ hgf hneL (Nat.le_refl _)).more hgf.size
              have hd1 : decide (L.length + xs.length ≤ 24) = false := decide_eq_false (by omega)
              rw [hd1]
              clear hd1
              rw [if_neg (by omega)] at hqf
              go_wp2_with fail
              obtain ⟨WT, hWT⟩ : ∃ WT, WT = f1 := ⟨_, rfl⟩
              obtain ⟨nT, hnT⟩ : ∃ nT, nT = n := ⟨_, rfl⟩
              obtain ⟨LT, hLTe⟩ : ∃ LT, LT = L := ⟨_, rfl⟩
              subst hWT hnT
              rw [← hLTe] at hqf hrLf hlen
              have hqT := hqf
              have hbT := hbf
              have hrT := hrLf
              have hlT := hlen
              have hblT := hblf
              have hneT := hneL
              have hncT := hnc
              have hcmT := hcmL
              clear hqf hbf hrLf hlen hblf hLTe hrL hqQ hbQ hbl

              rcases LT with _ | ⟨x1, t1⟩
              · obtain rfl : nT = 0 := by rw [← hlT]; rfl
                have hlT2 : ([] : List Int).length = 0 := rfl
                clear hlT
                refine (Peek_any w.heap.size csT [] aT WT hbT hqT).mono ?_
                rintro e p1 ⟨rfl, hp1⟩
                have hbp1 := (hbT).below hp1 (hbT).lt
                have hrp1 := (hrT).below hp1
                go_wp2_with fail
                refine (QLen_n w.heap.size csT [] aT 0 p1 hbp1 hqT hlT2).mono ?_
                rintro e p2 ⟨rfl, hp2⟩
                have hbp2 := hbp1.below hp2 hbp1.lt
                have hzp := hp1.size
                go_wp2_with fail
                refine (QAll_n w.heap.size csT [] aT 0 p2 hbp2 hqT hlT2).mono ?_
                rintro e p3 ⟨A9, c9, rfl, hr9, hp3⟩
                have hp13 := (hp2.trans (hp3.mono hp2.size)).mono hzp
                have hp03 := hp1.trans hp13
                have hrt := (hrT).below hp03
                have h24T : 0 ≤ 24 := by have h := (hqT).hl; have h2 : ([] : List Int).length = 0 := hlT2; omega
                go_wp2_with fail
                refine (EqSame [] A9 _ 0 c9 c _ _ p3 hr9 hrt h24T).mono ?_
                rintro e p4 ⟨rfl, hp4⟩
                have hp04 := below_then hp03 hp4
                go_wp2_with fail
                go_roundw
                case rel => exact ⟨k + 1, 0, c, aT, _, [], csT, by omega, by go_num, rfl, hlT2, hncT, hcmT, ((hrT).below hp04).more hp04.size, hneT, (hbT).below hp04 (hbT).lt, hqT, below_then hblT hp04⟩
                case measure => simp [intOf]; omega
              · have hlT2 : (x1 :: t1).length = nT := hlT
                clear hlT
                have hpos : (0 : Int) < (nT : Int) := by simp at hlT2; omega
                refine (Peek_any w.heap.size csT (x1 :: t1) aT WT hbT hqT).mono ?_
                rintro e p1 ⟨rfl, hp1⟩
                have hbp1 := (hbT).below hp1 (hbT).lt
                have hrp1 := (hrT).below hp1
                obtain ⟨adT, xT, hAT, _, hxT, hcT⟩ := ints_at hrp1 (k := 0) (by omega)
                cases hAT
                obtain rfl : x1 = xT := by simpa using hxT
                have hcT' : p1.cell? adT = some (.int .i64 x1) := hcT
                go_wp2_with fail
                refine (QLen_n w.heap.size csT (x1 :: t1) aT nT p1 hbp1 hqT hlT2).mono ?_
                rintro e p2 ⟨rfl, hp2⟩
                have hbp2 := hbp1.below hp2 hbp1.lt
                have hzp := hp1.size
                go_wp2_with fail
                refine (QAll_n w.heap.size csT (x1 :: t1) aT nT p2 hbp2 hqT hlT2).mono ?_
                rintro e p3 ⟨A9, c9, rfl, hr9, hp3⟩
                have hp13 := (hp2.trans (hp3.mono hp2.size)).mono hzp
                have hp03 := hp1.trans hp13
                have hrt := (hrT).below hp03
                have h24T : nT ≤ 24 := by have h := (hqT).hl; have h2 : ((x1 :: t1) : List Int).length = nT := hlT2; omega
                go_wp2_with fail
                refine (EqSame (x1 :: t1) A9 _ nT c9 c _ _ p3 hr9 hrt h24T).mono ?_
                rintro e p4 ⟨rfl, hp4⟩
                have hp04 := below_then hp03 hp4
                go_wp2_with fail
                go_roundw
                case rel => exact ⟨k + 1, nT, c, aT, _, (x1 :: t1), csT, by omega, by go_num, rfl, hlT2, hncT, hcmT, ((hrT).below hp04).more hp04.size, hneT, (hbT).below hp04 (hbT).lt, hqT, below_then hblT hp04⟩
                case measure => simp [intOf]; omega
        by_cases hk34 : kind = 3 ∨ kind = 4
        · have b2 : (kind == 2) = false := by rcases hk34 with rfl | rfl <;> rfl
          rcases hk34 with rfl | rfl
          all_goals
            rcases L with _ | ⟨x0, t0⟩
            · go_wp2_with fail
              as_aux_lemma =>
                obtain rfl : n = 0 := by rw [← hlen]; rfl
                refine (Pop_any w.heap.size cs [] a wr hbQ hqQ).mono ?_
                rintro e WT ⟨rfl, hgf, csT, aT, hbT, hqT⟩
                have hqT : QOf csT [] aT := hqT
                have hblT := hbl.grown hgf (Nat.le_of_lt hg) (fun k hk => by injection hk with hk; omega)
                have hrT := (hrL.grown_ hgf hneL (Nat.le_refl _)).more hgf.size
                go_wp2_with fail

                refine (Peek_any w.heap.size csT [] aT WT hbT hqT).mono ?_
                rintro e p1 ⟨rfl, hp1⟩
                have hbp1 := (hbT).below hp1 (hbT).lt
                have hrp1 := (hrT).below hp1
                go_wp2_with fail
                refine (QLen_n w.heap.size csT [] aT 0 p1 hbp1 hqT rfl).mono ?_
                rintro e p2 ⟨rfl, hp2⟩
                have hbp2 := hbp1.below hp2 hbp1.lt
                have hzp := hp1.size
                go_wp2_with fail
                refine (QAll_n w.heap.size csT [] aT 0 p2 hbp2 hqT rfl).mono ?_
                rintro e p3 ⟨A9, c9, rfl, hr9, hp3⟩
                have hp13 := (hp2.trans (hp3.mono hp2.size)).mono hzp
                have hp03 := hp1.trans hp13
                have hrt := (hrT).below hp03
                have h24T : 0 ≤ 24 := by have h := (hqT).hl; have h2 : ([] : List Int).length = 0 := rfl; omega
                go_wp2_with fail
                refine (EqSame [] A9 _ 0 c9 c _ _ p3 hr9 hrt h24T).mono ?_
                rintro e p4 ⟨rfl, hp4⟩
                have hp04 := below_then hp03 hp4
                go_wp2_with fail
                go_roundw
                case rel => exact ⟨k + 1, 0, c, aT, _, [], csT, by omega, by go_num, rfl, rfl, hnc, hcmL, ((hrT).below hp04).more hp04.size, hneL, (hbT).below hp04 (hbT).lt, hqT, below_then hblT hp04⟩
                case measure => simp [intOf]; omega
            · go_wp2_with fail
              as_aux_lemma =>
                refine (Pop_any w.heap.size cs (x0 :: t0) a wr hbQ hqQ).mono ?_
                rintro e WT ⟨rfl, hgf, csT, aT, hbT, hqT⟩
                have hqT : QOf csT t0 aT := hqT
                have hblT := hbl.grown hgf (Nat.le_of_lt hg) (fun k hk => by injection hk with hk; omega)
                have hrT0 := (hrL.grown_ hgf hneL (Nat.le_refl _)).more hgf.size
                obtain ⟨adL, xL, rfl, _, hxL, hcL⟩ := ints_at hrT0 (k := 0) (by simp at hlen; omega)
                obtain rfl : x0 = xL := by simpa using hxL
                have hcL' : WT.cell? adL = some (.int .i64 x0) := hcL
                have hpos0 : (0 : Int) < (n : Int) := by simp at hlen; omega
                by_cases hc1 : c = 1
                · obtain rfl : n = 1 := by omega
                  obtain rfl : t0 = [] := List.eq_nil_of_length_eq_zero (by simpa using hlen)
                  subst hc1
                  go_wp2_with fail
                  have hrT : Reads WT WT.heap.size 1 (some adL) 0 (intsV []) := ⟨rfl, fun h => absurd h (by omega)⟩
                  clear hrT0 hcL hcL' hrL hqQ hbQ hneL hlen hpos0 hnc hcmL hcmL'
                  refine (Peek_any w.heap.size csT [] aT WT hbT hqT).mono ?_
                  rintro e p1 ⟨rfl, hp1⟩
                  have hbp1 := (hbT).below hp1 (hbT).lt
                  have hrp1 := (hrT).below hp1
                  go_wp2_with fail
                  refine (QLen_n w.heap.size csT [] aT 0 p1 hbp1 hqT rfl).mono ?_
                  rintro e p2 ⟨rfl, hp2⟩
                  have hbp2 := hbp1.below hp2 hbp1.lt
                  have hzp := hp1.size
                  go_wp2_with fail
                  refine (QAll_n w.heap.size csT [] aT 0 p2 hbp2 hqT rfl).mono ?_
                  rintro e p3 ⟨A9, c9, rfl, hr9, hp3⟩
                  have hp13 := (hp2.trans (hp3.mono hp2.size)).mono hzp
                  have hp03 := hp1.trans hp13
                  have hrt := (hrT).below hp03
                  have h24T : 0 ≤ 24 := by have h := (hqT).hl; have h2 : ([] : List Int).length = 0 := rfl; omega
                  go_wp2_with fail
                  refine (EqSame [] A9 _ 0 c9 0 _ _ p3 hr9 hrt h24T).mono ?_
                  rintro e p4 ⟨rfl, hp4⟩
                  have hp04 := below_then hp03 hp4
                  go_wp2_with fail
                  go_roundw
                  case rel => exact ⟨k + 1, 0, 0, aT, _, [], csT, by omega, by go_num, rfl, rfl, (Nat.le_refl _), (Nat.zero_le _), ((hrT).below hp04).more hp04.size, (fun h => absurd h (by omega)), (hbT).below hp04 (hbT).lt, hqT, below_then hblT hp04⟩
                  case measure => simp [intOf]; omega
                · go_wp2_with fail
                  have hrT := hrT0.cut (k := 1) (cap := c) (by omega) hnc
                  rw [if_neg hc1] at hrT
                  rw [Option.map_some, show adL.add (1 * 1) = (⟨adL.block, adL.off + 1, none⟩ : Addr) from add_pos _ _ (by decide)] at hrT
                  have hrT : Reads WT WT.heap.size 1 (some ⟨adL.block, adL.off + 1, none⟩) (n - 1) (intsV t0) := hrT
                  have hlT : t0.length = n - 1 := by simp at hlen; omega
                  have hncT : n - 1 ≤ c - 1 := by omega
                  have hcmT : c - 1 ≤ maxLen := by omega
                  have hneT : 0 < n - 1 → ∀ ad', (some ⟨adL.block, adL.off + 1, none⟩ : Option Addr) = some ad' → ad'.block ≠ w.heap.size := fun _ ad' e => by
                    injection e with e
                    subst e
                    exact hneL (by omega) adL rfl
                  clear hrT0 hcL hcL' hrL hqQ hbQ hneL hlen
                  obtain ⟨LT, hLTe⟩ : ∃ LT, LT = t0 := ⟨_, rfl⟩
                  subst hLTe
                  clear hnc hcmL hcmL' hpos0 hc1
                  generalize n - 1 = nT at *
                  generalize c - 1 = cT at *
                  generalize (some ⟨adL.block, adL.off + 1, none⟩ : Option Addr) = AT at *
                  rcases LT with _ | ⟨x1, t1⟩
                  · obtain rfl : nT = 0 := by rw [← hlT]; rfl
                    have hlT2 : ([] : List Int).length = 0 := rfl
                    clear hlT
                    refine (Peek_any w.heap.size csT [] aT WT hbT hqT).mono ?_
                    rintro e p1 ⟨rfl, hp1⟩
                    have hbp1 := (hbT).below hp1 (hbT).lt
                    have hrp1 := (hrT).below hp1
                    go_wp2_with fail
                    refine (QLen_n w.heap.size csT [] aT 0 p1 hbp1 hqT hlT2).mono ?_
                    rintro e p2 ⟨rfl, hp2⟩
                    have hbp2 := hbp1.below hp2 hbp1.lt
                    have hzp := hp1.size
                    go_wp2_with fail
                    refine (QAll_n w.heap.size csT [] aT 0 p2 hbp2 hqT hlT2).mono ?_
                    rintro e p3 ⟨A9, c9, rfl, hr9, hp3⟩
                    have hp13 := (hp2.trans (hp3.mono hp2.size)).mono hzp
                    have hp03 := hp1.trans hp13
                    have hrt := (hrT).below hp03
                    have h24T : 0 ≤ 24 := by have h := (hqT).hl; have h2 : ([] : List Int).length = 0 := hlT2; omega
                    go_wp2_with fail
                    refine (EqSame [] A9 _ 0 c9 cT _ _ p3 hr9 hrt h24T).mono ?_
                    rintro e p4 ⟨rfl, hp4⟩
                    have hp04 := below_then hp03 hp4
                    go_wp2_with fail
                    go_roundw
                    case rel => exact ⟨k + 1, 0, cT, aT, _, [], csT, by omega, by go_num, rfl, hlT2, hncT, hcmT, ((hrT).below hp04).more hp04.size, hneT, (hbT).below hp04 (hbT).lt, hqT, below_then hblT hp04⟩
                    case measure => simp [intOf]; omega
                  · have hlT2 : (x1 :: t1).length = nT := hlT
                    clear hlT
                    have hpos : (0 : Int) < (nT : Int) := by simp at hlT2; omega
                    refine (Peek_any w.heap.size csT (x1 :: t1) aT WT hbT hqT).mono ?_
                    rintro e p1 ⟨rfl, hp1⟩
                    have hbp1 := (hbT).below hp1 (hbT).lt
                    have hrp1 := (hrT).below hp1
                    obtain ⟨adT, xT, hAT, _, hxT, hcT⟩ := ints_at hrp1 (k := 0) (by omega)
                    cases hAT
                    obtain rfl : x1 = xT := by simpa using hxT
                    have hcT' : p1.cell? adT = some (.int .i64 x1) := hcT
                    go_wp2_with fail
                    refine (QLen_n w.heap.size csT (x1 :: t1) aT nT p1 hbp1 hqT hlT2).mono ?_
                    rintro e p2 ⟨rfl, hp2⟩
                    have hbp2 := hbp1.below hp2 hbp1.lt
                    have hzp := hp1.size
                    go_wp2_with fail
                    refine (QAll_n w.heap.size csT (x1 :: t1) aT nT p2 hbp2 hqT hlT2).mono ?_
                    rintro e p3 ⟨A9, c9, rfl, hr9, hp3⟩
                    have hp13 := (hp2.trans (hp3.mono hp2.size)).mono hzp
                    have hp03 := hp1.trans hp13
                    have hrt := (hrT).below hp03
                    have h24T : nT ≤ 24 := by have h := (hqT).hl; have h2 : ((x1 :: t1) : List Int).length = nT := hlT2; omega
                    go_wp2_with fail
                    refine (EqSame (x1 :: t1) A9 _ nT c9 cT _ _ p3 hr9 hrt h24T).mono ?_
                    rintro e p4 ⟨rfl, hp4⟩
                    have hp04 := below_then hp03 hp4
                    go_wp2_with fail
                    go_roundw
                    case rel => exact ⟨k + 1, nT, cT, aT, _, (x1 :: t1), csT, by omega, by go_num, rfl, hlT2, hncT, hcmT, ((hrT).below hp04).more hp04.size, hneT, (hbT).below hp04 (hbT).lt, hqT, below_then hblT hp04⟩
                    case measure => simp [intOf]; omega
        by_cases hk5 : kind = 5 ∧ nx = 0
        · obtain ⟨rfl, rfl⟩ := hk5
          clear hk2 hk34
          go_wp2_with fail
          as_aux_lemma =>
            refine (QClear_any w.heap.size cs L a wr hbQ hqQ).mono ?_
            rintro e WT ⟨rfl, hgf, csT, hbT, hqT⟩
            have hblT := hbl.grown hgf (Nat.le_of_lt hg) (fun k hk => by injection hk with hk; omega)
            have hrT : Reads WT WT.heap.size 1 none 0 (intsV []) := Reads.none_
            go_wp2_with fail

            refine (Peek_any w.heap.size csT [] 0 WT hbT hqT).mono ?_
            rintro e p1 ⟨rfl, hp1⟩
            have hbp1 := (hbT).below hp1 (hbT).lt
            have hrp1 := (hrT).below hp1
            go_wp2_with fail
            refine (QLen_n w.heap.size csT [] 0 0 p1 hbp1 hqT rfl).mono ?_
            rintro e p2 ⟨rfl, hp2⟩
            have hbp2 := hbp1.below hp2 hbp1.lt
            have hzp := hp1.size
            go_wp2_with fail
            refine (QAll_n w.heap.size csT [] 0 0 p2 hbp2 hqT rfl).mono ?_
            rintro e p3 ⟨A9, c9, rfl, hr9, hp3⟩
            have hp13 := (hp2.trans (hp3.mono hp2.size)).mono hzp
            have hp03 := hp1.trans hp13
            have hrt := (hrT).below hp03
            have h24T : 0 ≤ 24 := by have h := (hqT).hl; have h2 : ([] : List Int).length = 0 := rfl; omega
            go_wp2_with fail
            refine (EqSame [] A9 _ 0 c9 0 _ _ p3 hr9 hrt h24T).mono ?_
            rintro e p4 ⟨rfl, hp4⟩
            have hp04 := below_then hp03 hp4
            go_wp2_with fail
            go_roundw
            case rel => exact ⟨k + 1, 0, 0, 0, _, [], csT, by omega, by go_num, rfl, rfl, (Nat.le_refl _), (Nat.zero_le _), ((hrT).below hp04).more hp04.size, (fun h => absurd h (by omega)), (hbT).below hp04 (hbT).lt, hqT, below_then hblT hp04⟩
            case measure => simp [intOf]; omega
        have b2 : (kind == 2) = false := beq_eq_false_iff_ne.2 hk2
        have b3 : (kind == 3) = false := beq_eq_false_iff_ne.2 (fun h => hk34 (.inl h))
        have b4 : (kind == 4) = false := beq_eq_false_iff_ne.2 (fun h => hk34 (.inr h))
        have hdef : (kind == 5) = false ∨ (kind = 5 ∧ ((nx : Int) == 0) = false) := by
          by_cases h5 : kind = 5
          · exact .inr ⟨h5, beq_eq_false_iff_ne.2 (fun h => hk5 ⟨h5, by omega⟩)⟩
          · exact .inl (beq_eq_false_iff_ne.2 h5)
        clear hk2 hk34 hk5
        rcases hdef with b5 | ⟨rfl, b5⟩
        all_goals
          by_cases hfit : n + nx ≤ 24
          · have hfi : (n : Int) + (nx : Int) ≤ 24 := by omega
            go_wp2_with fail
            as_aux_lemma =>
              refine (Push_any w.heap.size cs L xs a Ax nx cx w.heap.size wr hbQ hqQ (hrx.below hbl) (Nat.le_of_lt hg) hneX (by omega)).mono ?_
              rintro e f1 ⟨rfl, hgf, csT, hbf, hqf⟩
              obtain ⟨aT, haT⟩ : ∃ aT, aT = a := ⟨_, rfl⟩
              rw [← haT] at hqf
              have hblf := hbl.grown hgf (Nat.le_of_lt hg) (fun k hk => by injection hk with hk; omega)
              have hrLf := (hrL.grown_ hgf hneL (Nat.le_refl _)).more hgf.size
              have hd1 : decide (L.length + xs.length ≤ 24) = true := decide_eq_true (by omega)
              rw [hd1]
              clear hd1
              rw [if_pos (by omega)] at hqf
              go_wp2_with fail
              refine (Clone_any L A n c f1.heap.size f1 hrLf (Nat.le_refl _) (by omega)).mono ?_
              rintro e f2 ⟨v2, rfl, hown2, hb2f⟩
              go_wp2_with (first | (at_builtin; refine wpList_append_any _ rfl (.tmp 75) (.tmp 76) 83 rfl f1.heap.size 3 i0 (.int .i64 0) 1 8 Try.underlying83 hi hz0 hz1 hz2 rfl (by omega) _ n (intsV L) rfl hown2 f1.heap.size Ax nx cx (intsV xs) rfl (((hrx.below hblf).more hblf.size).below hb2f) (intsV_one xs) (by simp only [maxLen]; omega) (by omega) hb2f.size ?_; intro v3 WT hown3 hg3 hat3))
              obtain ⟨AT, cT, rfl, hrT0, hncT, hcmT⟩ := own_reads hown3
              have hneT : 0 < n + nx → ∀ ad, AT = some ad → ad.block ≠ w.heap.size := fun _ ad e => by
                subst e
                have h1 := (hown3.lt ad.block rfl).1
                have h2 := hbf.lt
                omega
              have hbT := (hbf.below hb2f hbf.lt).grown hg3 (fun e => by have h1 := (hown2.lt _ e.symm).1; have h2 := hbf.lt; omega)
              have hblT := (below_then hblf hb2f).grown hg3 (below_then hblf hb2f).size (fun k hk => by have h1 := (hown2.lt k hk).1; have h2 := hblf.size; omega)
              obtain ⟨LT, hLTe⟩ : ∃ LT, LT = L ++ xs := ⟨_, rfl⟩
              have hqT := hqf
              rw [← hLTe] at hqT
              have hrT : Reads WT WT.heap.size 1 AT (n + nx) (intsV LT) := by rw [hLTe]; simpa [intsV] using hrT0
              have hlT : LT.length = n + nx := by rw [hLTe, List.length_append]; omega
              clear hown3 hown2 hg3 hat3 hqf hbf hrT0 hLTe hrL hqQ hbQ hbl hblf hb2f hrLf
              generalize n + nx = nT at *

              rcases LT with _ | ⟨x1, t1⟩
              · obtain rfl : nT = 0 := by rw [← hlT]; rfl
                have hlT2 : ([] : List Int).length = 0 := rfl
                clear hlT
                refine (Peek_any w.heap.size csT [] aT WT hbT hqT).mono ?_
                rintro e p1 ⟨rfl, hp1⟩
                have hbp1 := (hbT).below hp1 (hbT).lt
                have hrp1 := (hrT).below hp1
                go_wp2_with fail
                refine (QLen_n w.heap.size csT [] aT 0 p1 hbp1 hqT hlT2).mono ?_
                rintro e p2 ⟨rfl, hp2⟩
                have hbp2 := hbp1.below hp2 hbp1.lt
                have hzp := hp1.size
                go_wp2_with fail
                refine (QAll_n w.heap.size csT [] aT 0 p2 hbp2 hqT hlT2).mono ?_
                rintro e p3 ⟨A9, c9, rfl, hr9, hp3⟩
                have hp13 := (hp2.trans (hp3.mono hp2.size)).mono hzp
                have hp03 := hp1.trans hp13
                have hrt := (hrT).below hp03
                have h24T : 0 ≤ 24 := by have h := (hqT).hl; have h2 : ([] : List Int).length = 0 := hlT2; omega
                go_wp2_with fail
                refine (EqSame [] A9 _ 0 c9 cT _ _ p3 hr9 hrt h24T).mono ?_
                rintro e p4 ⟨rfl, hp4⟩
                have hp04 := below_then hp03 hp4
                go_wp2_with fail
                go_roundw
                case rel => exact ⟨k + 1, 0, cT, aT, _, [], csT, by omega, by go_num, rfl, hlT2, hncT, hcmT, ((hrT).below hp04).more hp04.size, hneT, (hbT).below hp04 (hbT).lt, hqT, below_then hblT hp04⟩
                case measure => simp [intOf]; omega
              · have hlT2 : (x1 :: t1).length = nT := hlT
                clear hlT
                have hpos : (0 : Int) < (nT : Int) := by simp at hlT2; omega
                refine (Peek_any w.heap.size csT (x1 :: t1) aT WT hbT hqT).mono ?_
                rintro e p1 ⟨rfl, hp1⟩
                have hbp1 := (hbT).below hp1 (hbT).lt
                have hrp1 := (hrT).below hp1
                obtain ⟨adT, xT, hAT, _, hxT, hcT⟩ := ints_at hrp1 (k := 0) (by omega)
                cases hAT
                obtain rfl : x1 = xT := by simpa using hxT
                have hcT' : p1.cell? adT = some (.int .i64 x1) := hcT
                go_wp2_with fail
                refine (QLen_n w.heap.size csT (x1 :: t1) aT nT p1 hbp1 hqT hlT2).mono ?_
                rintro e p2 ⟨rfl, hp2⟩
                have hbp2 := hbp1.below hp2 hbp1.lt
                have hzp := hp1.size
                go_wp2_with fail
                refine (QAll_n w.heap.size csT (x1 :: t1) aT nT p2 hbp2 hqT hlT2).mono ?_
                rintro e p3 ⟨A9, c9, rfl, hr9, hp3⟩
                have hp13 := (hp2.trans (hp3.mono hp2.size)).mono hzp
                have hp03 := hp1.trans hp13
                have hrt := (hrT).below hp03
                have h24T : nT ≤ 24 := by have h := (hqT).hl; have h2 : ((x1 :: t1) : List Int).length = nT := hlT2; omega
                go_wp2_with fail
                refine (EqSame (x1 :: t1) A9 _ nT c9 cT _ _ p3 hr9 hrt h24T).mono ?_
                rintro e p4 ⟨rfl, hp4⟩
                have hp04 := below_then hp03 hp4
                go_wp2_with fail
                go_roundw
                case rel => exact ⟨k + 1, nT, cT, aT, _, (x1 :: t1), csT, by omega, by go_num, rfl, hlT2, hncT, hcmT, ((hrT).below hp04).more hp04.size, hneT, (hbT).below hp04 (hbT).lt, hqT, below_then hblT hp04⟩
                case measure => simp [intOf]; omega
          · have hfi : decide ((n : Int) + (nx : Int) ≤ 24) = false := decide_eq_false (by omega)
            go_wp2_with fail
            as_aux_lemma =>
              refine (Push_any w.heap.size cs L xs a Ax nx cx w.heap.size wr hbQ hqQ (hrx.below hbl) (Nat.le_of_lt hg) hneX (by omega)).mono ?_
              rintro e f1 ⟨rfl, hgf, csT, hbf, hqf⟩
              obtain ⟨aT, haT⟩ : ∃ aT, aT = a := ⟨_, rfl⟩
              rw [← haT] at hqf
              have hblf := hbl.grown hgf (Nat.le_of_lt hg) (fun k hk => by injection hk with hk; omega)
              have hrLf := (hrL.grown_ hgf hneL (Nat.le_refl _)).more hgf.size
              have hd1 : decide (L.length + xs.length ≤ 24) = false := decide_eq_false (by omega)
              rw [hd1]
              clear hd1
              rw [if_neg (by omega)] at hqf
              go_wp2_with fail
              obtain ⟨WT, hWT⟩ : ∃ WT, WT = f1 := ⟨_, rfl⟩
              obtain ⟨nT, hnT⟩ : ∃ nT, nT = n := ⟨_, rfl⟩
              obtain ⟨LT, hLTe⟩ : ∃ LT, LT = L := ⟨_, rfl⟩
              subst hWT hnT
              rw [← hLTe] at hqf hrLf hlen
              have hqT := hqf
              have hbT := hbf
              have hrT := hrLf
              have hlT := hlen
              have hblT := hblf
              have hneT := hneL
              have hncT := hnc
              have hcmT := hcmL
              clear hqf hbf hrLf hlen hblf hLTe hrL hqQ hbQ hbl

              rcases LT with _ | ⟨x1, t1⟩
              · obtain rfl : nT = 0 := by rw [← hlT]; rfl
                have hlT2 : ([] : List Int).length = 0 := rfl
                clear hlT
                refine (Peek_any w.heap.size csT [] aT WT hbT hqT).mono ?_
                rintro e p1 ⟨rfl, hp1⟩
                have hbp1 := (hbT).below hp1 (hbT).lt
                have hrp1 := (hrT).below hp1
                go_wp2_with fail
                refine (QLen_n w.heap.size csT [] aT 0 p1 hbp1 hqT hlT2).mono ?_
                rintro e p2 ⟨rfl, hp2⟩
                have hbp2 := hbp1.below hp2 hbp1.lt
                have hzp := hp1.size
                go_wp2_with fail
                refine (QAll_n w.heap.size csT [] aT 0 p2 hbp2 hqT hlT2).mono ?_
                rintro e p3 ⟨A9, c9, rfl, hr9, hp3⟩
                have hp13 := (hp2.trans (hp3.mono hp2.size)).mono hzp
                have hp03 := hp1.trans hp13
                have hrt := (hrT).below hp03
                have h24T : 0 ≤ 24 := by have h := (hqT).hl; have h2 : ([] : List Int).length = 0 := hlT2; omega
                go_wp2_with fail
                refine (EqSame [] A9 _ 0 c9 c _ _ p3 hr9 hrt h24T).mono ?_
                rintro e p4 ⟨rfl, hp4⟩
                have hp04 := below_then hp03 hp4
                go_wp2_with fail
                go_roundw
                case rel => exact ⟨k + 1, 0, c, aT, _, [], csT, by omega, by go_num, rfl, hlT2, hncT, hcmT, ((hrT).below hp04).more hp04.size, hneT, (hbT).below hp04 (hbT).lt, hqT, below_then hblT hp04⟩
                case measure => simp [intOf]; omega
              · have hlT2 : (x1 :: t1).length = nT := hlT
                clear hlT
                have hpos : (0 : Int) < (nT : Int) := by simp at hlT2; omega
                refine (Peek_any w.heap.size csT (x1 :: t1) aT WT hbT hqT).mono ?_
                rintro e p1 ⟨rfl, hp1⟩
                have hbp1 := (hbT).below hp1 (hbT).lt
                have hrp1 := (hrT).below hp1
                obtain ⟨adT, xT, hAT, _, hxT, hcT⟩ := ints_at hrp1 (k := 0) (by omega)
                cases hAT
                obtain rfl : x1 = xT := by simpa using hxT
                have hcT' : p1.cell? adT = some (.int .i64 x1) := hcT
                go_wp2_with fail
                refine (QLen_n w.heap.size csT (x1 :: t1) aT nT p1 hbp1 hqT hlT2).mono ?_
                rintro e p2 ⟨rfl, hp2⟩
                have hbp2 := hbp1.below hp2 hbp1.lt
                have hzp := hp1.size
                go_wp2_with fail
                refine (QAll_n w.heap.size csT (x1 :: t1) aT nT p2 hbp2 hqT hlT2).mono ?_
                rintro e p3 ⟨A9, c9, rfl, hr9, hp3⟩
                have hp13 := (hp2.trans (hp3.mono hp2.size)).mono hzp
                have hp03 := hp1.trans hp13
                have hrt := (hrT).below hp03
                have h24T : nT ≤ 24 := by have h := (hqT).hl; have h2 : ((x1 :: t1) : List Int).length = nT := hlT2; omega
                go_wp2_with fail
                refine (EqSame (x1 :: t1) A9 _ nT c9 c _ _ p3 hr9 hrt h24T).mono ?_
                rintro e p4 ⟨rfl, hp4⟩
                have hp04 := below_then hp03 hp4
                go_wp2_with fail
                go_roundw
                case rel => exact ⟨k + 1, nT, c, aT, _, (x1 :: t1), csT, by omega, by go_num, rfl, hlT2, hncT, hcmT, ((hrT).below hp04).more hp04.size, hneT, (hbT).below hp04 (hbT).lt, hqT, below_then hblT hp04⟩
                case measure => simp [intOf]; omega
        -- END ROUND
      · go_wp2_with (go_at_call 61; refine (alive21 _).mono ?_; rintro e w9 ⟨rfl, hb9⟩)
        go_ret
        exact ⟨rfl, below_then hbl hb9⟩
  · simp only [if_neg hf] at HO
    have HOF := Lib.hid HO
    clear HO
    go_enter Try.func11, Try.ntmps11
    go_wp2_with fail
    refine HOF.out.mono ?_
    rintro e w1 ⟨hbl1, rfl⟩
    go_wp2_with (go_at_call 61; refine (alive21 _).mono ?_; rintro e w9 ⟨rfl, hb9⟩)
    go_ret
    exact ⟨rfl, below_then hbl1 hb9⟩
end Go.Proofs.Ytgebopmiefgdoaa

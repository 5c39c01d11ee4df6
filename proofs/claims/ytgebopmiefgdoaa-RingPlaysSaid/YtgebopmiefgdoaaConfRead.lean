/-
  The contract of conf.Read.
-/
import Derived.Test.YtgebopmiefgdoaaConf
import Derived.BigQuiet
import Derived.Laws.Strings
namespace Go.Proofs.Ytgebopmiefgdoaa
open Go.RowKit
def textL (k r : Int) : List UInt8 := if confRight k r then confL k r else []
def readKind (l : List UInt8) : Int := if l.take 3 = [68, 77, 65] then 1 else 0
def readRom (l : List UInt8) : Nat × Nat := if l.length = 12 then readS 16 16 (l.drop 8) else (65536, 0)
/-- What conf.Read answers: kind, rom, error. -/
def confRead (l : List UInt8) : Int × Int × Int := if l.length < 3 then (0, 0, 21) else if (readRom l).2 ≠ 0 then (0, 0, 21) else if textL (readKind l) (readRom l).1 = l then (readKind l, (readRom l).1, 0) else (0, 0, 21)
theorem beq_dec (a b : List UInt8) : (a == b) = decide (a = b) := by
  by_cases h : a = b
  · subst h; simp
  · rw [decide_eq_false h]; exact beq_eq_false_iff_ne.2 h
theorem kind_cut (l : List UInt8) : (((ByteArray.mk l.toArray).extract 0 3).toList == ((ByteArray.mk #[84, 83, 67, 68, 77, 65]).extract 3 6).toList) = decide (l.take 3 = [68, 77, 65]) := by
  have h : ((ByteArray.mk #[84, 83, 67, 68, 77, 65]).extract 3 6).data.toList = [68, 77, 65] := by decide +kernel
  rw [ByteArray.toList_eq, ByteArray.toList_eq, h, ByteArray.data_extract, beq_dec]
  simp
theorem str_eq (a b : List UInt8) : ((ByteArray.mk a.toArray).toList == (ByteArray.mk b.toArray).toList) = decide (a = b) := by
  rw [ByteArray.toList_eq, ByteArray.toList_eq]
  exact beq_dec a b
theorem from8 (l : List UInt8) (h : l.length = 12) : (ByteArray.mk l.toArray).extract 8 12 = ⟨(l.drop 8).toArray⟩ := by
  apply ByteArray.ext
  rw [ByteArray.data_extract]
  simp
  exact List.take_of_length_le (by simp; omega)
theorem textL_lit (k r : Int) : Hid (textL k r = if confRight k r then confL k r else []) := rfl
set_option maxRecDepth 100000 in
set_option maxHeartbeats 2000000 in
theorem ConfRead_any (l : List UInt8) (w : World) (hl : l.length ≤ 4611686018427387904) :
    Calls Try.prog 71 #[.string ⟨l.toArray⟩] w fun e w' => e = .returned (.tuple #[.agg #[.int .i64 (confRead l).1, .int .i64 (confRead l).2.1], .int .i64 (confRead l).2.2]) ∧ Below w.heap.size w w' := by
  have hsz : (ByteArray.mk l.toArray).size = l.length := by simp [ByteArray.size_mk']
  by_cases h3 : l.length < 3
  · have HE : Hid (confRead l = (0, 0, 21)) := by unfold Hid confRead; rw [if_pos h3]
    go_enter Try.func71, Try.ntmps71
    go_wp2
    refine bodyPost_ret (by first | (simp [results, Try.results71, go_sem]; done) | (simp [results, Try.results71, go_sem]; rfl)) rfl ⟨by rw [HE.out], by repeat (first | exact Below.refl _ _ | apply below_alloc)⟩
  · have hkc := kind_cut l
    have HE : Hid (confRead l = if (readRom l).2 ≠ 0 then (0, 0, 21) else if textL (readKind l) (readRom l).1 = l then (readKind l, ((readRom l).1 : Int), 0) else (0, 0, 21)) := by unfold Hid confRead; rw [if_neg h3]
    have HKK : Hid (readKind l = 0 ∨ readKind l = 1) := by unfold Hid readKind; split <;> simp
    by_cases h12 : l.length = 12
    · have h8 := from8 l h12
      have hd8 : (l.drop 8).length = 4 := by simp; omega
      have HR : Hid (readRom l = readS 16 16 (l.drop 8)) := by unfold Hid readRom; rw [if_pos h12]
      have hlt : (readS 16 16 (l.drop 8)).1 < 65536 := by
        by_cases hg : ∀ c ∈ l.drop 8, val c < 16
        · have h1 := (readS_num 16 16 (by omega) (l.drop 8) (by intro h; rw [h] at hd8; simp at hd8) hg (by omega) (by omega)).1
          have h2 := numB_lt 16 (l.drop 8) hg
          rw [hd8] at h2
          rw [h1]; simpa using h2
        · obtain ⟨c, hc⟩ := Classical.not_forall.1 hg
          obtain ⟨hc1, hc2⟩ := Classical.not_imp.1 hc
          rw [readS_bad 16 16 _ c hc1 (by omega)]; decide
      have HRD : Hid (∀ W : World, Calls Try.prog 57 #[.string ⟨(l.drop 8).toArray⟩] W fun e w' => e = .returned (.tuple #[.int .u64 (readRom l).1, .int .i64 (readRom l).2]) ∧ W = w') := fun W => by
        rw [HR.out]; exact Read_any (l.drop 8) W (by omega)
      rw [← HR.out] at hlt
      have h12' : ((l.length : Int) == 12) = true := by rw [beq_iff_eq]; omega
      generalize hrr : readRom l = rr at *
      obtain ⟨n, er⟩ := rr
      dsimp only at hlt
      have HRR := Lib.hid hrr
      clear hrr hd8
      by_cases her : er = 0
      · subst her
        have HRD0 : Hid (∀ W : World, Calls Try.prog 57 #[.string ⟨(l.drop 8).toArray⟩] W fun e w' => e = .returned (.tuple #[.int .u64 (n : Int), .int .i64 0]) ∧ W = w') := HRD
        clear HRD
        have HT : Hid (∀ W : World, Calls Try.prog 79 #[.agg #[.int .i64 (readKind l), .int .i64 n]] W fun e w' => e = .returned (.string ⟨(textL (readKind l) n).toArray⟩) ∧ Below W.heap.size W w') := fun W => Text_any _ _ W (by have := HKK.out; omega) (by have := HKK.out; omega) (by omega) (by omega)
        dsimp only at HE
        rw [if_neg (fun h => h rfl)] at HE
        have hse := beq_dec (textL (readKind l) n) l
        generalize textL (readKind l) n = T at *
        clear HRR HR
        by_cases hk : l.take 3 = [68, 77, 65]
        · have HK : readKind l = 1 := by unfold readKind; rw [if_pos hk]
          rw [decide_eq_true hk] at hkc
          rw [HK] at HE HT
          clear hk HKK HK
          by_cases ht : T = l
          · rw [if_pos ht] at HE
            rw [decide_eq_true ht] at hse
            clear ht
            go_enter Try.func71, Try.ntmps71
            go_wp2_with fail
            go_quiet (fail)
            go_wp2_with (first | (go_at_call 57; refine (HRD0.out _).mono ?_; rintro e w1 ⟨rfl, rfl⟩) | (go_at_call 79; refine (HT.out _).mono ?_; rintro e w2 ⟨rfl, hb2⟩; have hz2 := hb2.size; obtain ⟨hcc, hff⟩ := bcell hb2; have q1 := fun o => hcc (w.heap.size + 1) o (by first | omega | (simp; done) | (simp; omega)); have q2 := fun o => hcc w.heap.size o (by first | omega | (simp; done) | (simp; omega)); have r2 := fun o => hff w.heap.size o (by first | omega | (simp; done) | (simp; omega)); clear hcc hff))
            refine bodyPost_ret (by first | (simp [results, Try.results71, go_sem]; done) | (simp [results, Try.results71, go_sem]; rfl) | (simp [results, Try.results71, go_sem, q2]; done) | (simp [results, Try.results71, go_sem, q2]; rfl)) rfl ⟨by rw [HE.out], ?_⟩
            repeat (first | exact Below.refl _ _ | apply below_alloc | apply below_drewN | (refine Below.setCell ?_ (by simp) _) | (refine below_then ?_ (by assumption)))
          · rw [if_neg ht] at HE
            rw [decide_eq_false ht] at hse
            clear ht
            go_enter Try.func71, Try.ntmps71
            go_wp2_with fail
            go_quiet (fail)
            go_wp2_with (first | (go_at_call 57; refine (HRD0.out _).mono ?_; rintro e w1 ⟨rfl, rfl⟩) | (go_at_call 79; refine (HT.out _).mono ?_; rintro e w2 ⟨rfl, hb2⟩; have hz2 := hb2.size; obtain ⟨hcc, hff⟩ := bcell hb2; have q1 := fun o => hcc (w.heap.size + 1) o (by first | omega | (simp; done) | (simp; omega)); have q2 := fun o => hcc w.heap.size o (by first | omega | (simp; done) | (simp; omega)); have r2 := fun o => hff w.heap.size o (by first | omega | (simp; done) | (simp; omega)); clear hcc hff))
            refine bodyPost_ret (by first | (simp [results, Try.results71, go_sem]; done) | (simp [results, Try.results71, go_sem]; rfl) | (simp [results, Try.results71, go_sem, q2]; done) | (simp [results, Try.results71, go_sem, q2]; rfl)) rfl ⟨by rw [HE.out], ?_⟩
            repeat (first | exact Below.refl _ _ | apply below_alloc | apply below_drewN | (refine Below.setCell ?_ (by simp) _) | (refine below_then ?_ (by assumption)))
        · have HK : readKind l = 0 := by unfold readKind; rw [if_neg hk]
          rw [decide_eq_false hk] at hkc
          rw [HK] at HE HT
          clear hk HKK HK
          by_cases ht : T = l
          · rw [if_pos ht] at HE
            rw [decide_eq_true ht] at hse
            clear ht
            go_enter Try.func71, Try.ntmps71
            go_wp2_with fail
            go_quiet (fail)
            go_wp2_with (first | (go_at_call 57; refine (HRD0.out _).mono ?_; rintro e w1 ⟨rfl, rfl⟩) | (go_at_call 79; refine (HT.out _).mono ?_; rintro e w2 ⟨rfl, hb2⟩; have hz2 := hb2.size; obtain ⟨hcc, hff⟩ := bcell hb2; have q1 := fun o => hcc (w.heap.size + 1) o (by first | omega | (simp; done) | (simp; omega)); have q2 := fun o => hcc w.heap.size o (by first | omega | (simp; done) | (simp; omega)); have r2 := fun o => hff w.heap.size o (by first | omega | (simp; done) | (simp; omega)); clear hcc hff))
            refine bodyPost_ret (by first | (simp [results, Try.results71, go_sem]; done) | (simp [results, Try.results71, go_sem]; rfl) | (simp [results, Try.results71, go_sem, q2]; done) | (simp [results, Try.results71, go_sem, q2]; rfl)) rfl ⟨by rw [HE.out], ?_⟩
            repeat (first | exact Below.refl _ _ | apply below_alloc | apply below_drewN | (refine Below.setCell ?_ (by simp) _) | (refine below_then ?_ (by assumption)))
          · rw [if_neg ht] at HE
            rw [decide_eq_false ht] at hse
            clear ht
            go_enter Try.func71, Try.ntmps71
            go_wp2_with fail
            go_quiet (fail)
            go_wp2_with (first | (go_at_call 57; refine (HRD0.out _).mono ?_; rintro e w1 ⟨rfl, rfl⟩) | (go_at_call 79; refine (HT.out _).mono ?_; rintro e w2 ⟨rfl, hb2⟩; have hz2 := hb2.size; obtain ⟨hcc, hff⟩ := bcell hb2; have q1 := fun o => hcc (w.heap.size + 1) o (by first | omega | (simp; done) | (simp; omega)); have q2 := fun o => hcc w.heap.size o (by first | omega | (simp; done) | (simp; omega)); have r2 := fun o => hff w.heap.size o (by first | omega | (simp; done) | (simp; omega)); clear hcc hff))
            refine bodyPost_ret (by first | (simp [results, Try.results71, go_sem]; done) | (simp [results, Try.results71, go_sem]; rfl) | (simp [results, Try.results71, go_sem, q2]; done) | (simp [results, Try.results71, go_sem, q2]; rfl)) rfl ⟨by rw [HE.out], ?_⟩
            repeat (first | exact Below.refl _ _ | apply below_alloc | apply below_drewN | (refine Below.setCell ?_ (by simp) _) | (refine below_then ?_ (by assumption)))
      · have HRD0 := HRD
        dsimp only at HE
        rw [if_pos her] at HE
        have her' : ((er : Int) != 0) = true := by rw [bne_iff_ne]; omega
        clear HRD HRR HR her
        by_cases hk : l.take 3 = [68, 77, 65]
        · rw [decide_eq_true hk] at hkc
          clear hk HKK
          go_enter Try.func71, Try.ntmps71
          go_wp2_with fail
          go_quiet (fail)
          go_wp2_with ((go_at_call 57; refine (HRD0.out _).mono ?_; rintro e w1 ⟨rfl, rfl⟩))
          refine bodyPost_ret (by first | (simp [results, Try.results71, go_sem]; done) | (simp [results, Try.results71, go_sem]; rfl)) rfl ⟨by rw [HE.out], ?_⟩
          repeat (first | exact Below.refl _ _ | apply below_alloc | apply below_drewN | (refine Below.setCell ?_ (by simp) _) | (refine below_then ?_ (by assumption)))
        · rw [decide_eq_false hk] at hkc
          clear hk HKK
          go_enter Try.func71, Try.ntmps71
          go_wp2_with fail
          go_quiet (fail)
          go_wp2_with ((go_at_call 57; refine (HRD0.out _).mono ?_; rintro e w1 ⟨rfl, rfl⟩))
          refine bodyPost_ret (by first | (simp [results, Try.results71, go_sem]; done) | (simp [results, Try.results71, go_sem]; rfl)) rfl ⟨by rw [HE.out], ?_⟩
          repeat (first | exact Below.refl _ _ | apply below_alloc | apply below_drewN | (refine Below.setCell ?_ (by simp) _) | (refine below_then ?_ (by assumption)))
    · have h12' : ((l.length : Int) == 12) = false := by rw [beq_eq_false_iff_ne]; omega
      have HR : Hid (readRom l = (65536, 0)) := by unfold Hid readRom; rw [if_neg h12]
      rw [HR.out] at HE
      dsimp only at HE
      rw [if_neg (fun h => h rfl)] at HE
      have HT : Hid (∀ W : World, Calls Try.prog 79 #[.agg #[.int .i64 (readKind l), .int .i64 65536]] W fun e w' => e = .returned (.string ⟨(textL (readKind l) 65536).toArray⟩) ∧ Below W.heap.size W w') := fun W => Text_any _ _ W (by have := HKK.out; omega) (by have := HKK.out; omega) (by omega) (by omega)
      have hse := beq_dec (textL (readKind l) 65536) l
      have HE' : Hid (confRead l = if textL (readKind l) 65536 = l then (readKind l, 65536, 0) else (0, 0, 21)) := HE
      clear HE
      have HE := HE'
      clear HE'
      generalize textL (readKind l) 65536 = T at *
      clear HR h12
      by_cases hk : l.take 3 = [68, 77, 65]
      · have HK : readKind l = 1 := by unfold readKind; rw [if_pos hk]
        rw [decide_eq_true hk] at hkc
        rw [HK] at HE HT
        clear hk HKK HK
        by_cases ht : T = l
        · rw [if_pos ht] at HE
          rw [decide_eq_true ht] at hse
          clear ht
          go_enter Try.func71, Try.ntmps71
          go_wp2_with fail
          go_quiet (fail)
          go_wp2_with ((go_at_call 79; refine (HT.out _).mono ?_; rintro e w2 ⟨rfl, hb2⟩; have hz2 := hb2.size; obtain ⟨hcc, hff⟩ := bcell hb2; have q1 := fun o => hcc (w.heap.size + 1) o (by first | omega | (simp; done) | (simp; omega)); have q2 := fun o => hcc w.heap.size o (by first | omega | (simp; done) | (simp; omega)); have r2 := fun o => hff w.heap.size o (by first | omega | (simp; done) | (simp; omega)); clear hcc hff))
          refine bodyPost_ret (by first | (simp [results, Try.results71, go_sem]; done) | (simp [results, Try.results71, go_sem]; rfl) | (simp [results, Try.results71, go_sem, q2]; done) | (simp [results, Try.results71, go_sem, q2]; rfl)) rfl ⟨by rw [HE.out], ?_⟩
          repeat (first | exact Below.refl _ _ | apply below_alloc | apply below_drewN | (refine Below.setCell ?_ (by simp) _) | (refine below_then ?_ (by assumption)))
        · rw [if_neg ht] at HE
          rw [decide_eq_false ht] at hse
          clear ht
          go_enter Try.func71, Try.ntmps71
          go_wp2_with fail
          go_quiet (fail)
          go_wp2_with ((go_at_call 79; refine (HT.out _).mono ?_; rintro e w2 ⟨rfl, hb2⟩; have hz2 := hb2.size; obtain ⟨hcc, hff⟩ := bcell hb2; have q1 := fun o => hcc (w.heap.size + 1) o (by first | omega | (simp; done) | (simp; omega)); have q2 := fun o => hcc w.heap.size o (by first | omega | (simp; done) | (simp; omega)); have r2 := fun o => hff w.heap.size o (by first | omega | (simp; done) | (simp; omega)); clear hcc hff))
          refine bodyPost_ret (by first | (simp [results, Try.results71, go_sem]; done) | (simp [results, Try.results71, go_sem]; rfl) | (simp [results, Try.results71, go_sem, q2]; done) | (simp [results, Try.results71, go_sem, q2]; rfl)) rfl ⟨by rw [HE.out], ?_⟩
          repeat (first | exact Below.refl _ _ | apply below_alloc | apply below_drewN | (refine Below.setCell ?_ (by simp) _) | (refine below_then ?_ (by assumption)))
      · have HK : readKind l = 0 := by unfold readKind; rw [if_neg hk]
        rw [decide_eq_false hk] at hkc
        rw [HK] at HE HT
        clear hk HKK HK
        by_cases ht : T = l
        · rw [if_pos ht] at HE
          rw [decide_eq_true ht] at hse
          clear ht
          go_enter Try.func71, Try.ntmps71
          go_wp2_with fail
          go_quiet (fail)
          go_wp2_with ((go_at_call 79; refine (HT.out _).mono ?_; rintro e w2 ⟨rfl, hb2⟩; have hz2 := hb2.size; obtain ⟨hcc, hff⟩ := bcell hb2; have q1 := fun o => hcc (w.heap.size + 1) o (by first | omega | (simp; done) | (simp; omega)); have q2 := fun o => hcc w.heap.size o (by first | omega | (simp; done) | (simp; omega)); have r2 := fun o => hff w.heap.size o (by first | omega | (simp; done) | (simp; omega)); clear hcc hff))
          refine bodyPost_ret (by first | (simp [results, Try.results71, go_sem]; done) | (simp [results, Try.results71, go_sem]; rfl) | (simp [results, Try.results71, go_sem, q2]; done) | (simp [results, Try.results71, go_sem, q2]; rfl)) rfl ⟨by rw [HE.out], ?_⟩
          repeat (first | exact Below.refl _ _ | apply below_alloc | apply below_drewN | (refine Below.setCell ?_ (by simp) _) | (refine below_then ?_ (by assumption)))
        · rw [if_neg ht] at HE
          rw [decide_eq_false ht] at hse
          clear ht
          go_enter Try.func71, Try.ntmps71
          go_wp2_with fail
          go_quiet (fail)
          go_wp2_with ((go_at_call 79; refine (HT.out _).mono ?_; rintro e w2 ⟨rfl, hb2⟩; have hz2 := hb2.size; obtain ⟨hcc, hff⟩ := bcell hb2; have q1 := fun o => hcc (w.heap.size + 1) o (by first | omega | (simp; done) | (simp; omega)); have q2 := fun o => hcc w.heap.size o (by first | omega | (simp; done) | (simp; omega)); have r2 := fun o => hff w.heap.size o (by first | omega | (simp; done) | (simp; omega)); clear hcc hff))
          refine bodyPost_ret (by first | (simp [results, Try.results71, go_sem]; done) | (simp [results, Try.results71, go_sem]; rfl) | (simp [results, Try.results71, go_sem, q2]; done) | (simp [results, Try.results71, go_sem, q2]; rfl)) rfl ⟨by rw [HE.out], ?_⟩
          repeat (first | exact Below.refl _ _ | apply below_alloc | apply below_drewN | (refine Below.setCell ?_ (by simp) _) | (refine below_then ?_ (by assumption)))
end Go.Proofs.Ytgebopmiefgdoaa

/-
  Contract of ram.Same.
-/
import Derived.Test.YtgebopmiefgdoaaRam5
import Derived.Test.YtgebopmiefgdoaaEqU8
namespace Go.Proofs.Ytgebopmiefgdoaa
open Go.RowKit
theorem EqBytes_any (l l' : List UInt8) (A A2 : Option Addr) (n c n2 c2 B B2 : Nat) (w : World) (hr : Reads w B 1 A n (bytesV l)) (hr2 : Reads w B2 1 A2 n2 (bytesV l')) (hn : n ≤ 4611686018427387904) (hn2 : n2 ≤ 4611686018427387904) :
    Calls Try.prog 116 #[.slice A n c, .slice A2 n2 c2] w fun e w' => e = .returned (.bool (decide (l = l'))) ∧ Below w.heap.size w w' := by
  have e : ∀ l : List UInt8, bytesV l = (l.map fun c : UInt8 => (c.toNat : Int)).map (Value.int .u8) := fun l => by simp [bytesV, List.map_map]
  have h := EqU8_any _ _ A A2 n c n2 c2 B B2 w (by rw [← e]; exact hr) (by rw [← e]; exact hr2) hn hn2
  have hd : decide ((l.map fun c : UInt8 => (c.toNat : Int)) = l'.map fun c : UInt8 => (c.toNat : Int)) = decide (l = l') := by
    have hi : ∀ a b : List UInt8, (a.map fun c : UInt8 => (c.toNat : Int)) = (b.map fun c : UInt8 => (c.toNat : Int)) ↔ a = b := fun a b => by
      constructor
      · intro h
        induction a generalizing b with
        | nil => cases b with
          | nil => rfl
          | cons y b => cases h
        | cons x a ih => cases b with
          | nil => cases h
          | cons y b =>
            simp only [List.map_cons, List.cons.injEq] at h
            have h1 : x = y := UInt8.toNat_inj.1 (by have := h.1; omega)
            rw [ih b h.2, h1]
      · rintro rfl; rfl
    by_cases hl : l = l'
    · rw [decide_eq_true hl, decide_eq_true ((hi l l').2 hl)]
    · rw [decide_eq_false hl, decide_eq_false fun e => hl ((hi l l').1 e)]
  rw [hd] at h
  exact h
theorem partL_page (m m' : Nat → UInt8) (p : Nat) (hp : p < 256) : partL m (256 * p) 256 = partL m' (256 * p) 256 ↔ ∀ j, j < 256 → m (256 * p + j) = m' (256 * p + j) := by
  constructor
  · intro h j hj
    have h1 : (partL m (256 * p) 256)[j]? = (partL m' (256 * p) 256)[j]? := by rw [h]
    simp only [partL, List.getElem?_map, List.getElem?_range hj, Option.map_some] at h1
    rw [show (256 * p + j) % 65536 = 256 * p + j by omega] at h1
    exact Option.some.inj h1
  · intro h
    unfold partL
    apply List.map_congr_left
    intro j hj
    rw [List.mem_range] at hj
    rw [show (256 * p + j) % 65536 = 256 * p + j by omega]
    exact h j hj
set_option maxRecDepth 100000 in
set_option maxHeartbeats 4000000 in
theorem Same_any {B g B' g' : Nat} {m m' : Nat → UInt8} {rom rom' : Int} {pb pb' : Nat → Option Nat} {cs cs' : Array Value} (w : World) (h : RamAt B g m rom pb cs w) (h' : RamAt B' g' m' rom' pb' cs' w) :
    Calls Try.prog 90 #[.pointer (some ⟨g, 0, none⟩), .pointer (some ⟨g', 0, none⟩)] w fun e w' => ∃ b, e = .returned (.bool b) ∧ (b = true ↔ (∀ k, k < 65536 → m k = m' k) ∧ rom = rom') ∧ Below w.heap.size w w' := by
  have HA := Lib.hid h
  have HB := Lib.hid h'
  clear h h'
  go_enter Try.func90, Try.ntmps90
  go_wp2
  go_loopw [6] (fun i wr => ∃ k : Nat, k ≤ 256 ∧ i = .int .i64 k ∧ (∀ q, q < 256 * k → m q = m' q) ∧ Below w.heap.size w wr) (fun i _ => 256 - (intOf i).toNat)
  case atStart => exact ⟨0, by omega, rfl, fun q hq => absurd hq (by omega), Below.refl _ _⟩
  case round =>
    obtain ⟨k, hk, rfl, hsame, hbl⟩ := hrel
    have HS := Lib.hid hsame
    clear hsame
    by_cases hlt : k < 256
    · have hlt' : (k : Int) < 256 := by omega
      have HPA := Lib.hid (Page_any k wr (HA.out.below hbl) hlt)
      go_wp2_with fail
      refine HPA.out.mono ?_
      rintro e w1 ⟨v1, rfl, hown1, hb1⟩
      have hbl1 := below_then hbl hb1
      have HPB := Lib.hid (Page_any k w1 (HB.out.below hbl1) hlt)
      obtain ⟨A1, c1, rfl, hr1, _, _⟩ := own_reads hown1
      clear hb1 hown1
      go_wp2_with fail
      refine HPB.out.mono ?_
      rintro e w2 ⟨v2, rfl, hown2, hb2⟩
      have hbl2 := below_then hbl1 hb2
      replace hr1 := hr1.below hb2
      obtain ⟨A2, c2, rfl, hr2, _, _⟩ := own_reads hown2
      clear hb2 hown2
      go_wp2_with fail
      refine (EqBytes_any _ _ A1 A2 256 c1 256 c2 _ _ w2 hr1 hr2 (by omega) (by omega)).mono ?_
      rintro e w3 ⟨rfl, hb3⟩
      have hbl3 := below_then hbl2 hb3
      clear hb3 hr1 hr2
      by_cases hpg : partL m (256 * k) 256 = partL m' (256 * k) 256
      · rw [decide_eq_true hpg]
        have HN : Hid (∀ q, q < 256 * (k + 1) → m q = m' q) := fun q hq => by
          rcases Nat.lt_or_ge q (256 * k) with h1 | h1
          · exact HS.out q h1
          · have h2 := (partL_page m m' k hlt).1 hpg (q - 256 * k) (by omega)
            rwa [show 256 * k + (q - 256 * k) = q by omega] at h2
        clear hpg
        go_wp2_with fail
        go_roundw
        case rel => exact ⟨k + 1, by omega, by go_num, HN.out, hbl3⟩
        case measure => simp [intOf]; omega
      · rw [decide_eq_false hpg]
        have HN : Hid (¬ ∀ q, q < 65536 → m q = m' q) := fun hall => hpg ((partL_page m m' k hlt).2 fun j hj => hall _ (by omega))
        clear hpg
        go_wp2
        go_ret
        exact ⟨false, rfl, ⟨fun e => (by cases e), fun e => absurd e.1 HN.out⟩, hbl3⟩
    · obtain rfl : k = 256 := by omega
      have c1 := ((HA.out.below hbl).blk.cell 256).trans HA.out.romc
      have c2 := ((HB.out.below hbl).blk.cell 256).trans HB.out.romc
      go_wp2
      go_quiet (fail)
      go_wp2
      go_ret
      refine ⟨rom == rom', rfl, ⟨fun e => ⟨fun q hq => HS.out q (by omega), by simpa using e⟩, fun e => by simpa using e.2⟩, below_drewN hbl _⟩
end Go.Proofs.Ytgebopmiefgdoaa

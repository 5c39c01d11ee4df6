/-
  Contracts of phase.Some, phase.First, of slices.Grow of nil, slices.Concat, phase.Row.
  Contracts of octet.Ones, of math/bits.OnesCount8, of lists.Count.
  Contracts of the rows of cycles: rows.idle, push, pull, next, vector, enter, call, memory, inside, branch, many, Tail, Rest, Row, phase.Ahead.
-/
import Derived.Test.YtkdaphkpllgmbaaGreatM06
import Derived.Lib.AppendZerosOnto
import Derived.Test.YtkdaphkpllgmbaaGreatM01
import Derived.Deep.Draws
import Derived.Deep.QuietTactic
import Derived.BigQuiet
import Derived.Lib.Hide
import Derived.Lib.BitFns
import Derived.Test.YtkdaphkpllgmbaaGreatM02
import Derived.Test.YtkdaphkpllgmbaaGreatM03
import Derived.Test.YtkdaphkpllgmbaaGreatM09
namespace Go.Proofs.YtkdaphkpllgmbaaGreat
open Go.RowKit Sp
set_option linter.unusedVariables false
theorem own_lower {w : World} {base base' : Nat} {e : TypeId} {size n : Nat} {v : Value} {xs : List Value} (h : w.ownsRow base e size v n xs) (hb : base' ≤ base) : w.ownsRow base' e size v n xs := by
  refine ⟨h.1, ?_⟩
  rcases h.2 with h | ⟨g, cap, cur, h1, h2, h3⟩
  · exact .inl h
  · exact .inr ⟨g, cap, cur, h1, Nat.le_trans hb h2, h3⟩
theorem own_made (w : World) (t : TypeId) (size n : Nat) (xs : List Value) (h : xs.length = n * size) (hn : n ≤ maxLen) : (w.alloc (.cells xs.toArray t)).ownsRow w.heap.size t size (.slice (some ⟨w.heap.size, 0, none⟩) n n) n xs :=
  ⟨h, .inr ⟨w.heap.size, n, xs.toArray, rfl, Nat.le_refl _, heap_alloc_new w _, Nat.le_refl _, hn, by simp [h], by simp [← h]⟩⟩
theorem OwnSteps.after {l : List Step} {w w1 w' : World} {e : Ending} (hb : Below w.heap.size w w1) (h : OwnSteps l w1 e w') : OwnSteps l w e w' := by
  obtain ⟨v, h1, h2, h3⟩ := h
  exact ⟨v, h1, own_lower h2 hb.size, below_then hb h3⟩
theorem OwnSteps.open_ {l : List Step} {w w' : World} {e : Ending} (h : OwnSteps l w e w') : ∃ A c, e = .returned (.slice A l.length c) ∧ w'.ownsRow w.heap.size 202 2 (.slice A l.length c) l.length (stepsV l) ∧ Below w.heap.size w w' := by
  obtain ⟨v, h1, h2, h3⟩ := h
  obtain ⟨A, c, rfl, _, _, _⟩ := own_reads h2
  exact ⟨A, c, h1, h2, h3⟩
set_option maxRecDepth 100000 in
theorem First_t (k : Int) (w : World) : Calls Tryz.prog 160 #[.int .i64 k] w (OwnSteps (first_ k) w) := by
  go_enter Tryz.func160, Tryz.ntmps160
  go_wp2
  go_ret
  exact ⟨_, rfl, own_made w _ 2 2 [.int .i64 k, .bool true, .int .i64 k, .bool false] rfl (by simp [maxLen]), below_alloc (Below.refl _ _) _⟩
set_option maxRecDepth 100000 in
theorem Some_nat (k : Int) (n : Nat) (hn : n ≤ 12) (w : World) : Calls Tryz.prog 157 #[.int .i64 k, .int .i64 (n : Int)] w (OwnSteps (some_ k (n : Int)) w) := by
  have HR := Lib.hid (fun (W : World) ad c B hr hB => Repeat_t ⟨k, false⟩ ad c n B W hr hB hn)
  have hmax : max (n : Int) 0 = (n : Int) := by omega
  have hw : World.heap w = w.heap := rfl
  rw [show some_ k (n : Int) = List.replicate n ⟨k, false⟩ from by simp [some_]]
  go_enter Tryz.func157, Tryz.ntmps157
  go_wp2_with (go_at_call 185; refine (HR.out _ _ _ (w.heap.size + 1) (Reads.newS w _ #[.int .i64 k, .bool false] 1 2 _ rfl (by omega)) (by simp)).mono ?_; rintro e w1 ho; obtain ⟨A, c, rfl, hown, hbl⟩ := ho.open_; clear ho)
  go_ret
  exact ⟨_, rfl, own_lower (by simpa using hown) (by simp), below_then (below_alloc (Below.refl _ _) _) hbl⟩
theorem Some_t (k n : Int) (h0 : 0 ≤ n) (h1 : n ≤ 12) (w : World) : Calls Tryz.prog 157 #[.int .i64 k, .int .i64 n] w (OwnSteps (some_ k n) w) := by
  obtain ⟨m, rfl⟩ := Int.eq_ofNat_of_zero_le h0
  exact Some_nat k m (by omega) w
def OwnNil (w : World) (e : Ending) (w' : World) : Prop := ∃ v, e = .returned v ∧ w'.ownsRow w.heap.size 202 2 v 0 [] ∧ Below w.heap.size w w'
set_option maxRecDepth 100000 in
set_option maxHeartbeats 2000000 in
theorem Grow_nil (n : Nat) (hn : n ≤ 1048576) (w : World) : Calls Tryz.prog 184 #[.slice none 0 0, .int .i64 (n : Int)] w (OwnNil w) := by
  obtain ⟨i0, hi, hz0, hz1, hz2⟩ := info_parts stepZero
  rcases Nat.eq_zero_or_pos n with rfl | hp
  · go_enter Tryz.func184, Tryz.ntmps184
    go_wp2
    go_ret
    exact ⟨_, rfl, own_nil _ _ _ _, Below.refl _ _⟩
  · have hck : (0 : Nat) + (0 + n - 0) = 0 + n := by omega
    have hold : (Builtin.firstCells i0.size 0 (.slice none 0 0)).run Tryz.prog w.drew = .ok ([] : List Value).toArray w.drew := run_firstCells_none w.drew i0.size 0 0 0
    have hrz : ∀ ty, (Builtin.append_ #[214, 3] ty #[.slice none 0 0, .int .i64 (n : Int)]).run Tryz.prog w =
        .ok (.slice (some ⟨w.heap.size, 0, none⟩) n (grownCap w n 0 202)) (w.drew.alloc (.cells (([] : List Value).toArray ++ Builtin.zeroCells (Value.agg #[.int .i64 0, .bool false]).cells n ++ Builtin.zeroCells (Value.agg #[.int .i64 0, .bool false]).cells (grownCap w n 0 202 - n)) 202)) := fun ty => by
      have h := Lib.run_append_grow_zeros w 214 3 ty 202 i0 (.agg #[.int .i64 0, .bool false]) .i64 .i64 Tryz.underlying214 Tryz.underlying3 hi hz0 none 0 0 [] hold n (by omega) (by omega) (by omega) (by omega) (by rw [hz2]; omega) (growslice_fits (by omega) (by rw [hz2]; omega))
      rw [Nat.zero_add] at h
      exact h
    have hGn : n ≤ grownCap w n 0 202 := grownCap_ge w _ _ _
    obtain ⟨G, hG⟩ : ∃ G, G = grownCap w n 0 202 := ⟨_, rfl⟩
    have hG63 : G ≤ maxLen := by
      have := grownCap_le_maxLen w n 0 202 (by unfold maxLen; omega)
      rwa [← hG] at this
    rw [← hG] at hrz hGn
    clear hold hck hG
    unfold maxLen at hG63
    have hp2 : (0 : Int) < (n : Int) := by omega
    have hcells : (([] : List Value).toArray ++ Builtin.zeroCells (Value.agg #[.int .i64 0, .bool false]).cells n ++ Builtin.zeroCells (Value.agg #[.int .i64 0, .bool false]).cells (G - n)).size = G * 2 := by
      simp only [Array.size_append, size_zeroCells, Value.cells]
      simp; omega
    have HC := Lib.hid hcells
    clear hcells
    generalize (([] : List Value).toArray ++ Builtin.zeroCells (Value.agg #[.int .i64 0, .bool false]).cells n ++ Builtin.zeroCells (Value.agg #[.int .i64 0, .bool false]).cells (G - n)) = C at *
    go_enter Tryz.func184, Tryz.ntmps184
    go_wp2_with (at_builtin; refine Lib.wpList_append_run _ rfl _ _ _ _ rfl _ _ rfl rfl _ _ (hrz _) ?_)
    go_ret
    exact ⟨_, rfl, ⟨rfl, .inr ⟨w.heap.size, G, C, rfl, Nat.le_refl _, heap_alloc_new w _, by omega, by unfold maxLen; exact hG63, HC.out, by simp⟩⟩, (below_alloc (Below.refl _ _) _).drew⟩
/-- A slice of steps: its value's three parts, and its steps. -/
structure SlS where
  a : Option Addr
  n : Nat
  c : Nat
  l : List Step
def SlS.v (s : SlS) : Value := .slice s.a s.n s.c
structure SlS.Good (s : SlS) (w : World) (B : Nat) : Prop where
  reads : Reads w B 2 s.a s.n (stepsV s.l)
  len : s.l.length = s.n
  small : s.n ≤ 100
def catL (ss : List SlS) : List Step := ss.flatMap SlS.l
def sumN (ss : List SlS) : Nat := (ss.map SlS.n).sum
theorem sumN_take (ss : List SlS) (k : Nat) (s : SlS) (h : ss[k]? = some s) : sumN (ss.take (k + 1)) = sumN (ss.take k) + s.n := by
  obtain ⟨hk, rfl⟩ := List.getElem?_eq_some_iff.1 h
  unfold sumN
  rw [List.take_succ_eq_append_getElem hk, List.map_append, List.sum_append]
  simp
theorem catL_take (ss : List SlS) (k : Nat) (s : SlS) (h : ss[k]? = some s) : catL (ss.take (k + 1)) = catL (ss.take k) ++ s.l := by
  obtain ⟨hk, rfl⟩ := List.getElem?_eq_some_iff.1 h
  unfold catL
  rw [List.take_succ_eq_append_getElem hk, List.flatMap_append]
  simp
theorem sumN_le (ss : List SlS) (h : ∀ s ∈ ss, s.n ≤ 100) : sumN ss ≤ 100 * ss.length := by
  induction ss with
  | nil => simp [sumN]
  | cons s ss ih =>
    have h1 := h s (by simp)
    have h2 := ih (fun x hx => h x (by simp [hx]))
    simp only [sumN, List.map_cons, List.sum_cons, List.length_cons] at h2 ⊢
    omega
theorem catL_len (ss : List SlS) (h : ∀ s ∈ ss, s.l.length = s.n) : (catL ss).length = sumN ss := by
  induction ss with
  | nil => simp [sumN, catL]
  | cons s ss ih =>
    have h1 := h s (by simp)
    have h2 := ih (fun x hx => h x (by simp [hx]))
    simp only [sumN, catL, List.map_cons, List.sum_cons, List.flatMap_cons, List.length_append] at h2 ⊢
    omega
set_option maxRecDepth 100000 in
set_option maxHeartbeats 2000000 in
theorem Concat_t (ss : List SlS) (A : Option Addr) (n c B : Nat) (w : World) (hr : Reads w B 1 A n (ss.map SlS.v)) (hB : B ≤ w.heap.size) (hg : ∀ s ∈ ss, s.Good w B) (hn : n ≤ 100) :
    Calls Tryz.prog 156 #[.slice A n c] w (OwnSteps (catL ss) w) := by
  obtain ⟨i0, hi, hz0, hz1, hz2⟩ := info_parts stepZero
  have hln : ss.length = n := by simpa using hr.1
  have hsm : ∀ k, sumN (ss.take k) ≤ 10000 := fun k => by
    have h1 := sumN_le (ss.take k) (fun s hs => (hg s (List.mem_of_mem_take hs)).small)
    have h2 : (ss.take k).length ≤ ss.length := List.length_take_le' _ _
    omega
  have hget : ∀ k, k < n → ∃ s, ss[k]? = some s ∧ s ∈ ss := fun k hk => ⟨ss[k]'(by omega), List.getElem?_eq_getElem _, List.getElem_mem _⟩
  have hall : ss.take n = ss := List.take_of_length_le (by omega)
  have HALL := Lib.hid hall
  have HSM := Lib.hid hsm
  have HGET := Lib.hid hget
  have HG := Lib.hid hg
  clear hln hsm hget hall hg
  go_enter Tryz.func156, Tryz.ntmps156
  go_wp2
  go_loop [3, 11] (fun a i => ∃ k : Nat, k ≤ n ∧ i = .int .i64 k ∧ a = .int .i64 (sumN (ss.take k) : Int)) (fun _ i => n - (intOf i).toNat)
  case atStart => exact ⟨0, by omega, rfl, rfl⟩
  case round =>
    obtain ⟨k, hk, rfl, rfl⟩ := hrel
    by_cases hlt : k < n
    · obtain ⟨s, hs, hm⟩ := HGET.out k hlt
      obtain ⟨ad, u, rfl, hab, hu, hcell⟩ := hr.at_ hlt
      rw [List.getElem?_map, hs] at hu
      obtain rfl : s.v = u := by simpa using hu
      have hT := sumN_take ss k s hs
      have h1 := HSM.out k
      have h2 := HSM.out (k + 1)
      have hsn := (HG.out s hm).small
      obtain ⟨sa, sn, sc, sl⟩ := s
      dsimp only [SlS.v] at hcell hT hsn
      rw [hT] at h2
      have HT := Lib.hid hT
      clear hs hm hu hT
      generalize sumN (ss.take k) = S at *
      go_wp2
      go_round
      case rel => exact ⟨k + 1, by omega, by go_num, by rw [HT.out]; go_num⟩
      case measure => simp [intOf]; omega
    · obtain rfl : k = n := by omega
      have h1 := HSM.out k
      have HGR := Lib.hid (fun W => Grow_nil (sumN (ss.take k)) (by omega) W)
      generalize sumN (ss.take k) = S at *
      clear hk
      go_wp2_with (first | (go_at_call 184; refine (HGR.out _).mono ?_; rintro e w1 ⟨v, rfl, hown, hbl⟩))
      clear HSM
      go_loopw [6, 27] (fun v i wr => ∃ j : Nat, j ≤ k ∧ i = .int .i64 j ∧ wr.ownsRow w.heap.size 202 2 v (catL (ss.take j)).length (stepsV (catL (ss.take j))) ∧ Below w.heap.size w wr) (fun _ i _ => k - (intOf i).toNat)
      case atStart => exact ⟨0, by omega, rfl, hown, hbl⟩
      case round =>
        obtain ⟨j, hj, rfl, hown, hbl⟩ := hrel
        by_cases hlt2 : j < k
        · obtain ⟨s, hs, hm⟩ := HGET.out j hlt2
          obtain ⟨ad, u, rfl, hab, hu, hcell0⟩ := hr.at_ hlt2
          rw [List.getElem?_map, hs] at hu
          obtain rfl : s.v = u := by simpa using hu
          have hcell := (hbl.cell (p := ad.add j) (by rw [block_of_add]; omega)).trans hcell0
          have HT := Lib.hid (catL_take ss j s hs)
          have hlen : (catL (ss.take j)).length ≤ 10000 := by
            rw [catL_len _ (fun s hs => (HG.out s (List.mem_of_mem_take hs)).len)]
            have h1 := sumN_le (ss.take j) (fun s hs => (HG.out s (List.mem_of_mem_take hs)).small)
            have h2 : (ss.take j).length ≤ j := List.length_take_le _ _
            omega
          have hgs := HG.out s hm
          have hrs := hgs.reads.below (hbl.mono hB)
          have hsn := hgs.small
          have hsl := hgs.len
          have hone := steps_one s.l
          obtain ⟨sa, sn, sc, sl⟩ := s
          dsimp only [SlS.v] at hcell hrs hsn hsl hone
          have HSL := Lib.hid hsl
          have hbs := hbl.size
          clear hs hm hu hcell0 hgs hsl
          generalize catL (ss.take j) = L at *
          go_wp2_with (at_builtin; refine wpList_append_any _ rfl (.tmp 31) (.tmp 32) 214 rfl w.heap.size 202 i0 (.agg #[.int .i64 0, .bool false]) 2 16 Tryz.underlying214 hi hz0 hz1 hz2 rfl (by omega) _ L.length (stepsV L) rfl hown B sa sn sc (stepsV sl) rfl hrs hone (by simp only [maxLen]; omega) (by omega) hbs ?_; intro v1 w2 hown1 hg1 hat1)
          go_roundw
          case rel => exact ⟨j + 1, by omega, by go_num, by rw [HT.out, stepsV_append, List.length_append, HSL.out]; exact hown1, below_own hbl hown hg1 hbs⟩
          case measure => simp [intOf]; omega
        · obtain rfl : j = k := by omega
          rw [HALL.out] at hown
          clear hlt2
          go_wp2
          go_ret
          exact ⟨_, rfl, hown, hbl⟩
theorem Row_t (ss : List SlS) (A : Option Addr) (n c B : Nat) (w : World) (hr : Reads w B 1 A n (ss.map SlS.v)) (hB : B ≤ w.heap.size) (hg : ∀ s ∈ ss, s.Good w B) (hn : n ≤ 100) :
    Calls Tryz.prog 139 #[.slice A n c] w (OwnSteps (catL ss) w) := by
  have HC := Lib.hid (Concat_t ss A n c B w hr hB hg hn)
  clear hr hg
  go_enter Tryz.func139, Tryz.ntmps139
  go_wp2_with ((go_at_call 156; refine HC.out.mono ?_; rintro e w1 ⟨v, rfl, hown, hbl⟩))
  go_ret
  exact ⟨_, rfl, hown, hbl⟩
end Go.Proofs.YtkdaphkpllgmbaaGreat
namespace Go.Proofs.YtkdaphkpllgmbaaGreat
open Go.RowKit Sp
def popc (n : Nat) : Nat := if h : n = 0 then 0 else n % 2 + popc (n / 2)
decreasing_by omega
theorem popc_step (n : Nat) (h : 0 < n) : popc n = n % 2 + popc (n / 2) := by rw [popc, dif_neg (by omega)]
theorem popc_le (n : Nat) : popc n ≤ n := by
  induction n using Nat.strongRecOn with
  | ind n ih =>
    rcases Nat.eq_zero_or_pos n with h | h
    · subst h; simp [popc]
    · rw [popc_step n h]
      have := ih (n / 2) (by omega)
      omega
/-- popc, by eight steps: for the kernel. -/
def popc8 (n : Nat) : Nat := n % 2 + (n / 2 % 2 + (n / 4 % 2 + (n / 8 % 2 + (n / 16 % 2 + (n / 32 % 2 + (n / 64 % 2 + n / 128 % 2))))))
theorem popc_lt (n : Nat) (h : n < 256) : popc n = popc8 n := by
  have st : ∀ n, popc n = n % 2 + popc (n / 2) := fun n => by
    rcases Nat.eq_zero_or_pos n with h | h
    · subst h; simp [popc]
    · exact popc_step n h
  rw [st n, st (n / 2), st (n / 2 / 2), st (n / 2 / 2 / 2), st (n / 2 / 2 / 2 / 2), st (n / 2 / 2 / 2 / 2 / 2), st (n / 2 / 2 / 2 / 2 / 2 / 2), st (n / 2 / 2 / 2 / 2 / 2 / 2 / 2)]
  have h0 : n / 2 / 2 / 2 / 2 / 2 / 2 / 2 / 2 = 0 := by omega
  rw [h0]
  have : popc 0 = 0 := by simp [popc]
  unfold popc8
  omega
set_option maxRecDepth 1000000 in
set_option maxHeartbeats 2000000 in
theorem OnesCount8_any (c : Nat) (w : World) (h : c < 256) :
    Calls Tryz.prog 262 #[.int .u8 c] w fun e w' => e = .returned (.int .i64 (popc c)) ∧ w = w' := by
  go_enter Tryz.func262, Tryz.ntmps262
  go_wp2
  rename_i hsz
  go_ret
  have key : ∀ c : Fin Lib.pop8tab.size, (Lib.pop8tab[c.val]'c.isLt).toNat = popc8 c.val := by decide +kernel
  have hk : (Lib.pop8tab[c]'hsz).toNat = popc8 c := key ⟨c, hsz⟩
  have hle : popc8 c ≤ 8 := by unfold popc8; omega
  refine ⟨ret_int ?_, rfl⟩
  rw [popc_lt c h, hk]
  unfold wrap64
  omega
def onesL (l : List UInt8) : Nat := (l.map fun c => popc c.toNat).sum
def sumL (l : List UInt8) : Nat := (l.map fun c : UInt8 => c.toNat).sum
theorem sum_take (f : UInt8 → Nat) (l : List UInt8) (k : Nat) (c : UInt8) (h : l[k]? = some c) : ((l.take (k + 1)).map f).sum = ((l.take k).map f).sum + f c := by
  obtain ⟨hk, rfl⟩ := List.getElem?_eq_some_iff.1 h
  rw [List.take_succ_eq_append_getElem hk, List.map_append, List.sum_append]
  simp
theorem sum_le (f : UInt8 → Nat) (b : Nat) (hf : ∀ c, f c ≤ b) (l : List UInt8) : (l.map f).sum ≤ b * l.length := by
  induction l with
  | nil => simp
  | cons c l ih =>
    have := hf c
    rw [List.map_cons, List.sum_cons, List.length_cons, Nat.mul_succ]
    omega
theorem onesL_le (l : List UInt8) : onesL l ≤ 255 * l.length := sum_le _ 255 (fun c => by have := popc_le c.toNat; have := c.toNat_lt; omega) l
theorem sumL_le (l : List UInt8) : sumL l ≤ 255 * l.length := sum_le _ 255 (fun c => by have := c.toNat_lt; omega) l
set_option maxRecDepth 100000 in
set_option maxHeartbeats 2000000 in
theorem Ones_any (l : List UInt8) (A : Option Addr) (n c B : Nat) (w : World) (hr : Reads w B 1 A n (bytesV l)) (hn : n ≤ 1048576) :
    Calls Tryz.prog 260 #[.slice A n c] w fun e w' => e = .returned (.int .i64 (onesL l)) ∧ w = w' := by
  have hln : l.length = n := by simpa [bytesV] using hr.1
  have HLN := Lib.hid hln
  clear hln
  go_enter Tryz.func260, Tryz.ntmps260
  go_wp2
  go_loop [3, 8] (fun a i => ∃ k : Nat, k ≤ n ∧ i = .int .i64 k ∧ a = .int .i64 (onesL (l.take k))) (fun _ i => n - (intOf i).toNat)
  case atStart => exact ⟨0, by omega, rfl, rfl⟩
  case round =>
    obtain ⟨k, hk, rfl, rfl⟩ := hrel
    by_cases hlt : k < n
    · obtain ⟨ad, u, rfl, hab, hu, hcell⟩ := hr.at_ hlt
      obtain ⟨c, hx, rfl⟩ := bytesV_get l k u hu
      have HT := Lib.hid (sum_take (fun c => popc c.toNat) l k c hx)
      have hc2 := c.toNat_lt
      have hp := popc_le c.toNat
      have hle := onesL_le (l.take k)
      have hlk : (l.take k).length ≤ k := List.length_take_le _ _
      clear hu hx
      generalize ho : onesL (l.take k) = o at *
      have HO := Lib.hid ho
      clear ho
      go_wp2_with (go_at_call 262; refine (OnesCount8_any _ _ (by omega)).mono ?_; rintro e w1 ⟨rfl, rfl⟩)
      go_round
      case rel => exact ⟨k + 1, by omega, by go_num, by rw [show onesL (l.take (k + 1)) = o + popc c.toNat from by rw [← HO.out]; exact HT.out]; go_num⟩
      case measure => simp [intOf]; omega
    · obtain rfl : k = n := by omega
      have hall : l.take k = l := List.take_of_length_le (by rw [HLN.out]; exact Nat.le_refl _)
      rw [hall] at *
      clear hall
      go_wp2
      go_ret
      exact ⟨rfl, rfl⟩
theorem ones_e (b : UInt8) : ((popc b.toNat : Nat) : Int) = ones b := by
  rw [popc_lt b.toNat b.toNat_lt]
  exact all_bytes (fun b => ((popc8 b.toNat : Nat) : Int) = ones b) (by decide +kernel) b
theorem Ones_new1 (b : UInt8) (t : TypeId) (w : World) (g : Nat) (hg : w.heap.size = g) :
    Calls Tryz.prog 260 #[.slice (some ⟨g, 0, none⟩) 1 1] (w.alloc (.cells #[.int .u8 (b.toNat : Int)] t)) fun e w' => e = .returned (.int .i64 (ones b)) ∧ w.alloc (.cells #[.int .u8 (b.toNat : Int)] t) = w' := by
  subst hg
  have h := Ones_any [b] _ 1 1 _ _ (Reads.new1 w t #[.int .u8 b.toNat] 1 (w.heap.size + 1) rfl (by omega)) (by omega)
  rwa [show ((onesL [b] : Nat) : Int) = ones b from by rw [← ones_e]; simp [onesL]] at h
theorem bit_01 (b : UInt8) (i : Nat) : 0 ≤ bit b i ∧ bit b i ≤ 1 := by unfold bit; split <;> omega
theorem ones_le (b : UInt8) : 0 ≤ ones b ∧ ones b ≤ 8 := by
  have h0 := bit_01 b 0; have h1 := bit_01 b 1; have h2 := bit_01 b 2; have h3 := bit_01 b 3; have h4 := bit_01 b 4; have h5 := bit_01 b 5; have h6 := bit_01 b 6; have h7 := bit_01 b 7
  unfold ones; omega
set_option maxRecDepth 100000 in
theorem Count_t (b : UInt8) (w : World) :
    Calls Tryz.prog 230 #[.int .u8 (b.toNat : Int)] w fun e w' => e = .returned (.int .i64 (count b)) ∧ Below w.heap.size w w' := by
  have H1 := Lib.hid (fun t W g hg => Ones_new1 b t W g hg)
  have H2 := Lib.hid (fun t W g hg => Ones_new1 (b &&& 0xf0) t W g hg)
  rw [show ((b &&& 0xf0).toNat : Int) = Go.bits .and .u8 (b.toNat : Int) 240 from (and8_240 b).symm] at H2
  have l1 := ones_le b
  have l2 := ones_le (b &&& 0xf0)
  rw [show count b = ones b + ones (b &&& 0xf0) from rfl]
  generalize ones b = x at *
  generalize ones (b &&& 0xf0) = y at *
  go_enter Tryz.func230, Tryz.ntmps230
  go_wp2_with (first | (go_at_call 260; with_reducible refine (H1.out _ _ _ ?hg).mono ?_; (case hg => first | rfl | (simp; done)); rintro e w1 ⟨rfl, rfl⟩) | (go_at_call 260; with_reducible refine (H2.out _ _ _ ?hg).mono ?_; (case hg => first | rfl | (simp; done)); rintro e w1 ⟨rfl, rfl⟩))
  go_ret
  exact ⟨rfl, below_alloc (below_alloc (Below.refl _ _) _) _⟩
end Go.Proofs.YtkdaphkpllgmbaaGreat
namespace Go.Proofs.YtkdaphkpllgmbaaGreat
open Go.RowKit Sp
set_option linter.unusedVariables false
theorem OwnSteps.got {l : List Step} {w w' : World} {e : Ending} (h : OwnSteps l w e w') : ∃ A c, e = .returned (.slice A l.length c) ∧ Reads w' w'.heap.size 2 A l.length (stepsV l) ∧ Below w.heap.size w w' := by
  obtain ⟨v, h1, h2, h3⟩ := h
  obtain ⟨A, c, rfl, h4, _, _⟩ := own_reads h2
  exact ⟨A, c, h1, h4, h3⟩
theorem OwnSteps.nil_ (w : World) : OwnSteps [] w (.returned (.slice none 0 0)) w := ⟨_, rfl, own_nil _ _ _ _, Below.refl _ _⟩
theorem Row2 (l1 l2 : List Step) (A1 : Option Addr) (c1 : Nat) (A2 : Option Addr) (c2 : Nat) (W : World) (h1 : Reads W W.heap.size 2 A1 l1.length (stepsV l1)) (s1 : l1.length ≤ 100) (h2 : Reads W W.heap.size 2 A2 l2.length (stepsV l2)) (s2 : l2.length ≤ 100) (g : Nat) (hg : W.heap.size = g) :
    Calls Tryz.prog 139 #[.slice (some ⟨g, 0, none⟩) 2 2] (W.alloc (.cells #[.slice A1 l1.length c1, .slice A2 l2.length c2] 214)) (OwnSteps (l1 ++ (l2)) W) := by
  subst hg
  have b : Below W.heap.size W (W.alloc (.cells #[.slice A1 l1.length c1, .slice A2 l2.length c2] 214)) := below_alloc (Below.refl _ _) _
  have h := Row_t [⟨A1, l1.length, c1, l1⟩, ⟨A2, l2.length, c2, l2⟩] _ 2 2 (W.heap.size + 1) _ (Reads.new1 W 214 #[.slice A1 l1.length c1, .slice A2 l2.length c2] 2 (W.heap.size + 1) rfl (by omega)) (by simp)
    (by
      intro s hs
      simp only [List.mem_cons, List.not_mem_nil, or_false] at hs
      rcases hs with rfl | rfl
      · exact ⟨(h1.below b).more (by omega), rfl, s1⟩
      · exact ⟨(h2.below b).more (by omega), rfl, s2⟩) (by omega)
  refine h.mono fun e w' ho => ?_
  have := OwnSteps.after b ho
  simpa [catL] using this
theorem Row3 (l1 l2 l3 : List Step) (A1 : Option Addr) (c1 : Nat) (A2 : Option Addr) (c2 : Nat) (A3 : Option Addr) (c3 : Nat) (W : World) (h1 : Reads W W.heap.size 2 A1 l1.length (stepsV l1)) (s1 : l1.length ≤ 100) (h2 : Reads W W.heap.size 2 A2 l2.length (stepsV l2)) (s2 : l2.length ≤ 100) (h3 : Reads W W.heap.size 2 A3 l3.length (stepsV l3)) (s3 : l3.length ≤ 100) (g : Nat) (hg : W.heap.size = g) :
    Calls Tryz.prog 139 #[.slice (some ⟨g, 0, none⟩) 3 3] (W.alloc (.cells #[.slice A1 l1.length c1, .slice A2 l2.length c2, .slice A3 l3.length c3] 214)) (OwnSteps (l1 ++ (l2 ++ (l3))) W) := by
  subst hg
  have b : Below W.heap.size W (W.alloc (.cells #[.slice A1 l1.length c1, .slice A2 l2.length c2, .slice A3 l3.length c3] 214)) := below_alloc (Below.refl _ _) _
  have h := Row_t [⟨A1, l1.length, c1, l1⟩, ⟨A2, l2.length, c2, l2⟩, ⟨A3, l3.length, c3, l3⟩] _ 3 3 (W.heap.size + 1) _ (Reads.new1 W 214 #[.slice A1 l1.length c1, .slice A2 l2.length c2, .slice A3 l3.length c3] 3 (W.heap.size + 1) rfl (by omega)) (by simp)
    (by
      intro s hs
      simp only [List.mem_cons, List.not_mem_nil, or_false] at hs
      rcases hs with rfl | rfl | rfl
      · exact ⟨(h1.below b).more (by omega), rfl, s1⟩
      · exact ⟨(h2.below b).more (by omega), rfl, s2⟩
      · exact ⟨(h3.below b).more (by omega), rfl, s3⟩) (by omega)
  refine h.mono fun e w' ho => ?_
  have := OwnSteps.after b ho
  simpa [catL] using this
theorem Row4 (l1 l2 l3 l4 : List Step) (A1 : Option Addr) (c1 : Nat) (A2 : Option Addr) (c2 : Nat) (A3 : Option Addr) (c3 : Nat) (A4 : Option Addr) (c4 : Nat) (W : World) (h1 : Reads W W.heap.size 2 A1 l1.length (stepsV l1)) (s1 : l1.length ≤ 100) (h2 : Reads W W.heap.size 2 A2 l2.length (stepsV l2)) (s2 : l2.length ≤ 100) (h3 : Reads W W.heap.size 2 A3 l3.length (stepsV l3)) (s3 : l3.length ≤ 100) (h4 : Reads W W.heap.size 2 A4 l4.length (stepsV l4)) (s4 : l4.length ≤ 100) (g : Nat) (hg : W.heap.size = g) :
    Calls Tryz.prog 139 #[.slice (some ⟨g, 0, none⟩) 4 4] (W.alloc (.cells #[.slice A1 l1.length c1, .slice A2 l2.length c2, .slice A3 l3.length c3, .slice A4 l4.length c4] 214)) (OwnSteps (l1 ++ (l2 ++ (l3 ++ (l4)))) W) := by
  subst hg
  have b : Below W.heap.size W (W.alloc (.cells #[.slice A1 l1.length c1, .slice A2 l2.length c2, .slice A3 l3.length c3, .slice A4 l4.length c4] 214)) := below_alloc (Below.refl _ _) _
  have h := Row_t [⟨A1, l1.length, c1, l1⟩, ⟨A2, l2.length, c2, l2⟩, ⟨A3, l3.length, c3, l3⟩, ⟨A4, l4.length, c4, l4⟩] _ 4 4 (W.heap.size + 1) _ (Reads.new1 W 214 #[.slice A1 l1.length c1, .slice A2 l2.length c2, .slice A3 l3.length c3, .slice A4 l4.length c4] 4 (W.heap.size + 1) rfl (by omega)) (by simp)
    (by
      intro s hs
      simp only [List.mem_cons, List.not_mem_nil, or_false] at hs
      rcases hs with rfl | rfl | rfl | rfl
      · exact ⟨(h1.below b).more (by omega), rfl, s1⟩
      · exact ⟨(h2.below b).more (by omega), rfl, s2⟩
      · exact ⟨(h3.below b).more (by omega), rfl, s3⟩
      · exact ⟨(h4.below b).more (by omega), rfl, s4⟩) (by omega)
  refine h.mono fun e w' ho => ?_
  have := OwnSteps.after b ho
  simpa [catL] using this
theorem some_len (k n : Int) : (some_ k n).length = n.toNat := by simp [some_]
theorem some_small (k n : Int) (h : n ≤ 12) : (some_ k n).length ≤ 100 := by rw [some_len]; omega
theorem vector_small : vector.length ≤ 100 := by decide
theorem call_small : call.length ≤ 100 := by decide
theorem enter_small (n : Int) (h : n ≤ 12) : (enter n).length ≤ 100 := by
  have := some_len 8 n
  simp only [enter, List.length_append]
  have h1 : (some_ 4 1).length = 1 := by decide
  have h2 : vector.length = 3 := by decide
  omega
theorem first_small (k : Int) : (first_ k).length ≤ 100 := by simp [first_]
theorem ones_hi (b : UInt8) : ones (b &&& 0xf0) ≤ 4 := all_bytes (fun b => ones (b &&& 0xf0) ≤ 4) (by decide +kernel) b
theorem count_le (b : UInt8) : 0 ≤ count b ∧ count b ≤ 12 := by
  have h1 := ones_le b
  have h2 := ones_le (b &&& 0xf0)
  have h3 := ones_hi b
  unfold count
  omega
set_option maxRecDepth 100000 in
set_option maxHeartbeats 2000000 in
theorem idle_t (n : Int) (w : World) (h0 : 0 ≤ n) (h1 : n ≤ 12) :
    Calls Tryz.prog 158 #[.int .i64 n] w (OwnSteps (some_ 4 n) w) := by
  have HS := Lib.hid (fun W => Some_t 4 n h0 h1 W)
  go_enter Tryz.func158, Tryz.ntmps158
  go_wp2_with fail
  refine (HS.out _).mono ?_
  rintro e w1 ho
  obtain ⟨A, c, rfl, hown, hbl⟩ := ho.open_
  clear ho
  go_wp2
  go_ret
  exact ⟨_, rfl, hown, hbl⟩
set_option maxRecDepth 100000 in
set_option maxHeartbeats 2000000 in
theorem push_t (n : Int) (w : World) (h0 : 0 ≤ n) (h1 : n ≤ 12) :
    Calls Tryz.prog 159 #[.int .i64 n] w (OwnSteps (some_ 8 n) w) := by
  have HS := Lib.hid (fun W => Some_t 8 n h0 h1 W)
  go_enter Tryz.func159, Tryz.ntmps159
  go_wp2_with fail
  refine (HS.out _).mono ?_
  rintro e w1 ho
  obtain ⟨A, c, rfl, hown, hbl⟩ := ho.open_
  clear ho
  go_wp2
  go_ret
  exact ⟨_, rfl, hown, hbl⟩
set_option maxRecDepth 100000 in
set_option maxHeartbeats 2000000 in
theorem pull_t (n : Int) (w : World) (h0 : 0 ≤ n) (h1 : n ≤ 12) :
    Calls Tryz.prog 215 #[.int .i64 n] w (OwnSteps (some_ 9 n) w) := by
  have HS := Lib.hid (fun W => Some_t 9 n h0 h1 W)
  go_enter Tryz.func215, Tryz.ntmps215
  go_wp2_with fail
  refine (HS.out _).mono ?_
  rintro e w1 ho
  obtain ⟨A, c, rfl, hown, hbl⟩ := ho.open_
  clear ho
  go_wp2
  go_ret
  exact ⟨_, rfl, hown, hbl⟩
set_option maxRecDepth 100000 in
set_option maxHeartbeats 2000000 in
theorem next_t (n : Int) (w : World) (h0 : 0 ≤ n) (h1 : n ≤ 12) :
    Calls Tryz.prog 140 #[.int .i64 n] w (OwnSteps (some_ 3 n) w) := by
  have HS := Lib.hid (fun W => Some_t 3 n h0 h1 W)
  go_enter Tryz.func140, Tryz.ntmps140
  go_wp2_with fail
  refine (HS.out _).mono ?_
  rintro e w1 ho
  obtain ⟨A, c, rfl, hown, hbl⟩ := ho.open_
  clear ho
  go_wp2
  go_ret
  exact ⟨_, rfl, hown, hbl⟩
set_option maxRecDepth 100000 in
set_option maxHeartbeats 2000000 in
theorem vector_t  (w : World) :
    Calls Tryz.prog 142 #[] w (OwnSteps (vector) w) := by
  go_enter Tryz.func142, Tryz.ntmps142
  have hbt : Below w.heap.size w w := Below.refl _ _
  go_wp2_with fail
  refine (First_t 12 _).mono ?_
  rintro e w1 ho
  obtain ⟨A1, c1, rfl, hr1, hb1⟩ := ho.got
  clear ho
  replace hbt := below_then hbt hb1
  clear hb1
  go_wp2_with fail
  refine (idle_t 1 _ (by omega) (by omega)).mono ?_
  rintro e w2 ho
  obtain ⟨A2, c2, rfl, hr2, hb2⟩ := ho.got
  clear ho
  replace hbt := below_then hbt hb2
  replace hr1 := (hr1.below hb2).more hb2.size
  clear hb2
  go_wp2_with fail
  refine (Row2 _ _ _ _ _ _ _ hr1 (first_small _) hr2 (some_small _ _ (by omega)) _ rfl).mono ?_
  rintro e wz ho
  replace ho : OwnSteps (vector) _ e wz := ho
  obtain ⟨A, c, rfl, hown, hbl⟩ := ho.open_
  clear ho
  go_wp2
  go_ret
  exact ⟨_, rfl, own_lower hown hbt.size, below_then hbt hbl⟩
set_option maxRecDepth 100000 in
set_option maxHeartbeats 2000000 in
theorem enter_t (n : Int) (w : World) (h0 : 0 ≤ n) (h1 : n ≤ 12) :
    Calls Tryz.prog 141 #[.int .i64 n] w (OwnSteps (enter n) w) := by
  go_enter Tryz.func141, Tryz.ntmps141
  have hbt : Below w.heap.size w w := Below.refl _ _
  go_wp2_with fail
  refine (idle_t 1 _ (by omega) (by omega)).mono ?_
  rintro e w1 ho
  obtain ⟨A1, c1, rfl, hr1, hb1⟩ := ho.got
  clear ho
  replace hbt := below_then hbt hb1
  clear hb1
  go_wp2_with fail
  refine (push_t n _ h0 h1).mono ?_
  rintro e w2 ho
  obtain ⟨A2, c2, rfl, hr2, hb2⟩ := ho.got
  clear ho
  replace hbt := below_then hbt hb2
  replace hr1 := (hr1.below hb2).more hb2.size
  clear hb2
  go_wp2_with fail
  refine (idle_t 1 _ (by omega) (by omega)).mono ?_
  rintro e w3 ho
  obtain ⟨A3, c3, rfl, hr3, hb3⟩ := ho.got
  clear ho
  replace hbt := below_then hbt hb3
  replace hr1 := (hr1.below hb3).more hb3.size
  replace hr2 := (hr2.below hb3).more hb3.size
  clear hb3
  go_wp2_with fail
  refine (vector_t _).mono ?_
  rintro e w4 ho
  obtain ⟨A4, c4, rfl, hr4, hb4⟩ := ho.got
  clear ho
  replace hbt := below_then hbt hb4
  replace hr1 := (hr1.below hb4).more hb4.size
  replace hr2 := (hr2.below hb4).more hb4.size
  replace hr3 := (hr3.below hb4).more hb4.size
  clear hb4
  go_wp2_with fail
  refine (Row4 _ _ _ _ _ _ _ _ _ _ _ _ _ hr1 (some_small _ _ (by omega)) hr2 (some_small _ _ h1) hr3 (some_small _ _ (by omega)) hr4 (vector_small) _ rfl).mono ?_
  rintro e wz ho
  replace ho : OwnSteps (enter n) _ e wz := ho
  obtain ⟨A, c, rfl, hown, hbl⟩ := ho.open_
  clear ho
  go_wp2
  go_ret
  exact ⟨_, rfl, own_lower hown hbt.size, below_then hbt hbl⟩
set_option maxRecDepth 100000 in
set_option maxHeartbeats 2000000 in
theorem call_t  (w : World) :
    Calls Tryz.prog 229 #[] w (OwnSteps (call) w) := by
  go_enter Tryz.func229, Tryz.ntmps229
  have hbt : Below w.heap.size w w := Below.refl _ _
  go_wp2_with fail
  refine (Some_t 7 1 (by omega) (by omega) _).mono ?_
  rintro e w1 ho
  obtain ⟨A1, c1, rfl, hr1, hb1⟩ := ho.got
  clear ho
  replace hbt := below_then hbt hb1
  clear hb1
  go_wp2_with fail
  refine (idle_t 1 _ (by omega) (by omega)).mono ?_
  rintro e w2 ho
  obtain ⟨A2, c2, rfl, hr2, hb2⟩ := ho.got
  clear ho
  replace hbt := below_then hbt hb2
  replace hr1 := (hr1.below hb2).more hb2.size
  clear hb2
  go_wp2_with fail
  refine (push_t 2 _ (by omega) (by omega)).mono ?_
  rintro e w3 ho
  obtain ⟨A3, c3, rfl, hr3, hb3⟩ := ho.got
  clear ho
  replace hbt := below_then hbt hb3
  replace hr1 := (hr1.below hb3).more hb3.size
  replace hr2 := (hr2.below hb3).more hb3.size
  clear hb3
  go_wp2_with fail
  refine (Row3 _ _ _ _ _ _ _ _ _ _ hr1 (some_small _ _ (by omega)) hr2 (some_small _ _ (by omega)) hr3 (some_small _ _ (by omega)) _ rfl).mono ?_
  rintro e wz ho
  replace ho : OwnSteps (call) _ e wz := ho
  obtain ⟨A, c, rfl, hown, hbl⟩ := ho.open_
  clear ho
  go_wp2
  go_ret
  exact ⟨_, rfl, own_lower hown hbt.size, below_then hbt hbl⟩
set_option maxRecDepth 100000 in
set_option maxHeartbeats 2000000 in
theorem memoryRow_3  (w : World) :
    Calls Tryz.prog 192 #[.int .i64 3] w (OwnSteps (memoryRow 3) w) := by
    rw [show memoryRow 3 = [⟨5, true⟩, ⟨4, true⟩, ⟨6, false⟩] from rfl]
    go_enter Tryz.func192, Tryz.ntmps192
    go_wp2
    go_ret
    have h := own_made w 202 2 3 [.int .i64 5, .bool true, .int .i64 4, .bool true, .int .i64 6, .bool false] rfl (by simp [maxLen])
    refine ⟨.slice (some ⟨w.heap.size, 0, none⟩) 3 3, rfl, ?_, below_alloc (Below.refl _ _) _⟩
    exact h
set_option maxRecDepth 100000 in
set_option maxHeartbeats 2000000 in
theorem memoryRow_t (g : Int) (w : World) :
    Calls Tryz.prog 192 #[.int .i64 g] w (OwnSteps (memoryRow g) w) := by
  rcases (show g = 1 ∨ g = 2 ∨ g = 3 ∨ g = 4 ∨ g = 5 ∨ g = 6 ∨ g = 7 ∨ g = 8 ∨ g = 10 ∨ (g ≠ 1 ∧ g ≠ 2 ∧ g ≠ 3 ∧ g ≠ 4 ∧ g ≠ 5 ∧ g ≠ 6 ∧ g ≠ 7 ∧ g ≠ 8 ∧ g ≠ 10) from by omega) with rfl | rfl | rfl | rfl | rfl | rfl | rfl | rfl | rfl | ⟨h1, h2, h3, h4, h5, h6, h7, h8, h10⟩
  · as_aux_lemma =>
    go_enter Tryz.func192, Tryz.ntmps192
    go_wp2_with fail
    refine (Some_t 5 1 (by omega) (by omega) _).mono ?_
    rintro e w1 ho
    obtain ⟨A, c, rfl, hown, hbl⟩ := ho.open_
    clear ho
    go_wp2
    go_ret
    exact ⟨_, rfl, hown, hbl⟩
  · as_aux_lemma =>
    go_enter Tryz.func192, Tryz.ntmps192
    go_wp2_with fail
    refine (Some_t 6 1 (by omega) (by omega) _).mono ?_
    rintro e w1 ho
    obtain ⟨A, c, rfl, hown, hbl⟩ := ho.open_
    clear ho
    go_wp2
    go_ret
    exact ⟨_, rfl, hown, hbl⟩
  · as_aux_lemma =>
    exact memoryRow_3 w
  · as_aux_lemma =>
    go_enter Tryz.func192, Tryz.ntmps192
    have hbt : Below w.heap.size w w := Below.refl _ _
    go_wp2_with fail
    refine (Some_t 5 1 (by omega) (by omega) _).mono ?_
    rintro e w1 ho
    obtain ⟨A1, c1, rfl, hr1, hb1⟩ := ho.got
    clear ho
    replace hbt := below_then hbt hb1
    clear hb1
    go_wp2_with fail
    refine (idle_t 2 _ (by omega) (by omega)).mono ?_
    rintro e w2 ho
    obtain ⟨A2, c2, rfl, hr2, hb2⟩ := ho.got
    clear ho
    replace hbt := below_then hbt hb2
    replace hr1 := (hr1.below hb2).more hb2.size
    clear hb2
    go_wp2_with fail
    refine (Row2 _ _ _ _ _ _ _ hr1 (some_small _ _ (by omega)) hr2 (some_small _ _ (by omega)) _ rfl).mono ?_
    rintro e wz ho
    replace ho : OwnSteps (memoryRow 4) _ e wz := ho
    obtain ⟨A, c, rfl, hown, hbl⟩ := ho.open_
    clear ho
    go_wp2
    go_ret
    exact ⟨_, rfl, own_lower hown hbt.size, below_then hbt hbl⟩
  · as_aux_lemma =>
    go_enter Tryz.func192, Tryz.ntmps192
    go_wp2_with fail
    refine (First_t 5 _).mono ?_
    rintro e w1 ho
    obtain ⟨A, c, rfl, hown, hbl⟩ := ho.open_
    clear ho
    go_wp2
    go_ret
    exact ⟨_, rfl, hown, hbl⟩
  · as_aux_lemma =>
    go_enter Tryz.func192, Tryz.ntmps192
    go_wp2_with fail
    refine (First_t 6 _).mono ?_
    rintro e w1 ho
    obtain ⟨A, c, rfl, hown, hbl⟩ := ho.open_
    clear ho
    go_wp2
    go_ret
    exact ⟨_, rfl, hown, hbl⟩
  · as_aux_lemma =>
    go_enter Tryz.func192, Tryz.ntmps192
    have hbt : Below w.heap.size w w := Below.refl _ _
    go_wp2_with fail
    refine (First_t 5 _).mono ?_
    rintro e w1 ho
    obtain ⟨A1, c1, rfl, hr1, hb1⟩ := ho.got
    clear ho
    replace hbt := below_then hbt hb1
    clear hb1
    go_wp2_with fail
    refine (idle_t 1 _ (by omega) (by omega)).mono ?_
    rintro e w2 ho
    obtain ⟨A2, c2, rfl, hr2, hb2⟩ := ho.got
    clear ho
    replace hbt := below_then hbt hb2
    replace hr1 := (hr1.below hb2).more hb2.size
    clear hb2
    go_wp2_with fail
    refine (Row2 _ _ _ _ _ _ _ hr1 (first_small _) hr2 (some_small _ _ (by omega)) _ rfl).mono ?_
    rintro e wz ho
    replace ho : OwnSteps (memoryRow 7) _ e wz := ho
    obtain ⟨A, c, rfl, hown, hbl⟩ := ho.open_
    clear ho
    go_wp2
    go_ret
    exact ⟨_, rfl, own_lower hown hbt.size, below_then hbt hbl⟩
  · as_aux_lemma =>
    go_enter Tryz.func192, Tryz.ntmps192
    go_wp2_with fail
    refine (idle_t 1 _ (by omega) (by omega)).mono ?_
    rintro e w1 ho
    obtain ⟨A, c, rfl, hown, hbl⟩ := ho.open_
    clear ho
    go_wp2
    go_ret
    exact ⟨_, rfl, hown, hbl⟩
  · as_aux_lemma =>
    go_enter Tryz.func192, Tryz.ntmps192
    go_wp2_with fail
    refine (call_t _).mono ?_
    rintro e w1 ho
    obtain ⟨A, c, rfl, hown, hbl⟩ := ho.open_
    clear ho
    go_wp2
    go_ret
    exact ⟨_, rfl, hown, hbl⟩
  · as_aux_lemma =>
    have e1 : (g == 1) = false := beq_eq_false_iff_ne.mpr h1
    have e2 : (g == 2) = false := beq_eq_false_iff_ne.mpr h2
    have e3 : (g == 3) = false := beq_eq_false_iff_ne.mpr h3
    have e4 : (g == 4) = false := beq_eq_false_iff_ne.mpr h4
    have e5 : (g == 5) = false := beq_eq_false_iff_ne.mpr h5
    have e6 : (g == 6) = false := beq_eq_false_iff_ne.mpr h6
    have e7 : (g == 7) = false := beq_eq_false_iff_ne.mpr h7
    have e8 : (g == 8) = false := beq_eq_false_iff_ne.mpr h8
    have e10 : (g == 10) = false := beq_eq_false_iff_ne.mpr h10
    rw [show memoryRow g = [] from by simp [memoryRow, h1, h2, h3, h4, h5, h6, h7, h8, h10]]
    go_enter Tryz.func192, Tryz.ntmps192
    go_wp2
    go_ret
    exact OwnSteps.nil_ _
set_option maxRecDepth 100000 in
set_option maxHeartbeats 2000000 in
theorem insideRow_t (op : Int) (w : World) :
    Calls Tryz.prog 189 #[.int .i64 op] w (OwnSteps (insideRow op) w) := by
  rcases (show op = 1 ∨ op = 40 ∨ op = 50 ∨ op = 48 ∨ op = 49 ∨ op = 51 ∨ (op ≠ 1 ∧ op ≠ 40 ∧ op ≠ 50 ∧ op ≠ 48 ∧ op ≠ 49 ∧ op ≠ 51) from by omega) with rfl | rfl | rfl | rfl | rfl | rfl | ⟨h1, h40, h50, h48, h49, h51⟩
  · as_aux_lemma =>
    go_enter Tryz.func189, Tryz.ntmps189
    have hbt : Below w.heap.size w w := Below.refl _ _
    go_wp2_with fail
    refine (next_t 1 _ (by omega) (by omega)).mono ?_
    rintro e w1 ho
    obtain ⟨A1, c1, rfl, hr1, hb1⟩ := ho.got
    clear ho
    replace hbt := below_then hbt hb1
    clear hb1
    go_wp2_with fail
    refine (idle_t 1 _ (by omega) (by omega)).mono ?_
    rintro e w2 ho
    obtain ⟨A2, c2, rfl, hr2, hb2⟩ := ho.got
    clear ho
    replace hbt := below_then hbt hb2
    replace hr1 := (hr1.below hb2).more hb2.size
    clear hb2
    go_wp2_with fail
    refine (Row2 _ _ _ _ _ _ _ hr1 (some_small _ _ (by omega)) hr2 (some_small _ _ (by omega)) _ rfl).mono ?_
    rintro e wz ho
    replace ho : OwnSteps (insideRow 1) _ e wz := ho
    obtain ⟨A, c, rfl, hown, hbl⟩ := ho.open_
    clear ho
    go_wp2
    go_ret
    exact ⟨_, rfl, own_lower hown hbt.size, below_then hbt hbl⟩
  · as_aux_lemma =>
    go_enter Tryz.func189, Tryz.ntmps189
    have hbt : Below w.heap.size w w := Below.refl _ _
    go_wp2_with fail
    refine (next_t 1 _ (by omega) (by omega)).mono ?_
    rintro e w1 ho
    obtain ⟨A1, c1, rfl, hr1, hb1⟩ := ho.got
    clear ho
    replace hbt := below_then hbt hb1
    clear hb1
    go_wp2_with fail
    refine (idle_t 1 _ (by omega) (by omega)).mono ?_
    rintro e w2 ho
    obtain ⟨A2, c2, rfl, hr2, hb2⟩ := ho.got
    clear ho
    replace hbt := below_then hbt hb2
    replace hr1 := (hr1.below hb2).more hb2.size
    clear hb2
    go_wp2_with fail
    refine (Row2 _ _ _ _ _ _ _ hr1 (some_small _ _ (by omega)) hr2 (some_small _ _ (by omega)) _ rfl).mono ?_
    rintro e wz ho
    replace ho : OwnSteps (insideRow 40) _ e wz := ho
    obtain ⟨A, c, rfl, hown, hbl⟩ := ho.open_
    clear ho
    go_wp2
    go_ret
    exact ⟨_, rfl, own_lower hown hbt.size, below_then hbt hbl⟩
  · as_aux_lemma =>
    go_enter Tryz.func189, Tryz.ntmps189
    have hbt : Below w.heap.size w w := Below.refl _ _
    go_wp2_with fail
    refine (next_t 1 _ (by omega) (by omega)).mono ?_
    rintro e w1 ho
    obtain ⟨A1, c1, rfl, hr1, hb1⟩ := ho.got
    clear ho
    replace hbt := below_then hbt hb1
    clear hb1
    go_wp2_with fail
    refine (idle_t 9 _ (by omega) (by omega)).mono ?_
    rintro e w2 ho
    obtain ⟨A2, c2, rfl, hr2, hb2⟩ := ho.got
    clear ho
    replace hbt := below_then hbt hb2
    replace hr1 := (hr1.below hb2).more hb2.size
    clear hb2
    go_wp2_with fail
    refine (Row2 _ _ _ _ _ _ _ hr1 (some_small _ _ (by omega)) hr2 (some_small _ _ (by omega)) _ rfl).mono ?_
    rintro e wz ho
    replace ho : OwnSteps (insideRow 50) _ e wz := ho
    obtain ⟨A, c, rfl, hown, hbl⟩ := ho.open_
    clear ho
    go_wp2
    go_ret
    exact ⟨_, rfl, own_lower hown hbt.size, below_then hbt hbl⟩
  · as_aux_lemma =>
    go_enter Tryz.func189, Tryz.ntmps189
    have hbt : Below w.heap.size w w := Below.refl _ _
    go_wp2_with fail
    refine (next_t 1 _ (by omega) (by omega)).mono ?_
    rintro e w1 ho
    obtain ⟨A1, c1, rfl, hr1, hb1⟩ := ho.got
    clear ho
    replace hbt := below_then hbt hb1
    clear hb1
    go_wp2_with fail
    refine (pull_t 2 _ (by omega) (by omega)).mono ?_
    rintro e w2 ho
    obtain ⟨A2, c2, rfl, hr2, hb2⟩ := ho.got
    clear ho
    replace hbt := below_then hbt hb2
    replace hr1 := (hr1.below hb2).more hb2.size
    clear hb2
    go_wp2_with fail
    refine (idle_t 1 _ (by omega) (by omega)).mono ?_
    rintro e w3 ho
    obtain ⟨A3, c3, rfl, hr3, hb3⟩ := ho.got
    clear ho
    replace hbt := below_then hbt hb3
    replace hr1 := (hr1.below hb3).more hb3.size
    replace hr2 := (hr2.below hb3).more hb3.size
    clear hb3
    go_wp2_with fail
    refine (Row3 _ _ _ _ _ _ _ _ _ _ hr1 (some_small _ _ (by omega)) hr2 (some_small _ _ (by omega)) hr3 (some_small _ _ (by omega)) _ rfl).mono ?_
    rintro e wz ho
    replace ho : OwnSteps (insideRow 48) _ e wz := ho
    obtain ⟨A, c, rfl, hown, hbl⟩ := ho.open_
    clear ho
    go_wp2
    go_ret
    exact ⟨_, rfl, own_lower hown hbt.size, below_then hbt hbl⟩
  · as_aux_lemma =>
    go_enter Tryz.func189, Tryz.ntmps189
    have hbt : Below w.heap.size w w := Below.refl _ _
    go_wp2_with fail
    refine (next_t 1 _ (by omega) (by omega)).mono ?_
    rintro e w1 ho
    obtain ⟨A1, c1, rfl, hr1, hb1⟩ := ho.got
    clear ho
    replace hbt := below_then hbt hb1
    clear hb1
    go_wp2_with fail
    refine (pull_t 1 _ (by omega) (by omega)).mono ?_
    rintro e w2 ho
    obtain ⟨A2, c2, rfl, hr2, hb2⟩ := ho.got
    clear ho
    replace hbt := below_then hbt hb2
    replace hr1 := (hr1.below hb2).more hb2.size
    clear hb2
    go_wp2_with fail
    refine (Row2 _ _ _ _ _ _ _ hr1 (some_small _ _ (by omega)) hr2 (some_small _ _ (by omega)) _ rfl).mono ?_
    rintro e wz ho
    replace ho : OwnSteps (insideRow 49) _ e wz := ho
    obtain ⟨A, c, rfl, hown, hbl⟩ := ho.open_
    clear ho
    go_wp2
    go_ret
    exact ⟨_, rfl, own_lower hown hbt.size, below_then hbt hbl⟩
  · as_aux_lemma =>
    go_enter Tryz.func189, Tryz.ntmps189
    have hbt : Below w.heap.size w w := Below.refl _ _
    go_wp2_with fail
    refine (next_t 1 _ (by omega) (by omega)).mono ?_
    rintro e w1 ho
    obtain ⟨A1, c1, rfl, hr1, hb1⟩ := ho.got
    clear ho
    replace hbt := below_then hbt hb1
    clear hb1
    go_wp2_with fail
    refine (enter_t 12 _ (by omega) (by omega)).mono ?_
    rintro e w2 ho
    obtain ⟨A2, c2, rfl, hr2, hb2⟩ := ho.got
    clear ho
    replace hbt := below_then hbt hb2
    replace hr1 := (hr1.below hb2).more hb2.size
    clear hb2
    go_wp2_with fail
    refine (Row2 _ _ _ _ _ _ _ hr1 (some_small _ _ (by omega)) hr2 (enter_small _ (by omega)) _ rfl).mono ?_
    rintro e wz ho
    replace ho : OwnSteps (insideRow 51) _ e wz := ho
    obtain ⟨A, c, rfl, hown, hbl⟩ := ho.open_
    clear ho
    go_wp2
    go_ret
    exact ⟨_, rfl, own_lower hown hbt.size, below_then hbt hbl⟩
  · as_aux_lemma =>
    have e1 : (op == 1) = false := beq_eq_false_iff_ne.mpr h1
    have e40 : (op == 40) = false := beq_eq_false_iff_ne.mpr h40
    have e50 : (op == 50) = false := beq_eq_false_iff_ne.mpr h50
    have e48 : (op == 48) = false := beq_eq_false_iff_ne.mpr h48
    have e49 : (op == 49) = false := beq_eq_false_iff_ne.mpr h49
    have e51 : (op == 51) = false := beq_eq_false_iff_ne.mpr h51
    rw [show insideRow op = some_ 3 1 from by simp [insideRow, h1, h40, h50, h48, h49, h51]]
    go_enter Tryz.func189, Tryz.ntmps189
    go_wp2_with fail
    refine (next_t 1 _ (by omega) (by omega)).mono ?_
    rintro e w1 ho
    obtain ⟨A, c, rfl, hown, hbl⟩ := ho.open_
    clear ho
    go_wp2
    go_ret
    exact ⟨_, rfl, hown, hbl⟩
attribute [local go_sem] Sp.Ent.v Sp.Ent.cells
set_option maxRecDepth 100000 in
set_option maxHeartbeats 2000000 in
theorem branchRow_t (op mode reg : Int) (cc : UInt8) (w : World) :
    Calls Tryz.prog 190 #[.agg #[.int .i64 op, .int .i64 mode, .int .i64 reg], .int .u8 (cc.toNat : Int)] w (OwnSteps (branchRow ⟨op, mode, reg⟩ cc) w) := by
  rcases (show op = 35 ∨ op = 36 ∨ op = 37 ∨ op = 38 ∨ (op ≠ 35 ∧ op ≠ 36 ∧ op ≠ 37 ∧ op ≠ 38) from by omega) with rfl | rfl | rfl | rfl | ⟨h35, h36, h37, h38⟩
  · as_aux_lemma =>
    obtain ⟨h, hh⟩ : ∃ h, holds reg cc = h := ⟨_, rfl⟩
    have HH := Lib.hid (fun W => holds_t reg cc W)
    rw [show branchRow ⟨35, mode, reg⟩ cc = if h then some_ 4 2 else some_ 4 1 from by simp [branchRow, hh]]
    rw [hh] at HH
    clear hh
    cases h
    · go_enter Tryz.func190, Tryz.ntmps190
      go_wp2_with fail
      refine (HH.out _).mono ?_
      rintro e w0 ⟨rfl, hb0⟩
      replace hb0 := below_then (below_alloc (Below.refl w.heap.size w) _) hb0
      go_wp2_with fail
      refine (idle_t 1 _ (by omega) (by omega)).mono ?_
      rintro e w1 ho
      obtain ⟨A, c, rfl, hown, hbl⟩ := ho.open_
      clear ho
      go_wp2
      go_ret
      exact ⟨_, rfl, own_lower hown hb0.size, below_then hb0 hbl⟩
    · go_enter Tryz.func190, Tryz.ntmps190
      go_wp2_with fail
      refine (HH.out _).mono ?_
      rintro e w0 ⟨rfl, hb0⟩
      replace hb0 := below_then (below_alloc (Below.refl w.heap.size w) _) hb0
      go_wp2_with fail
      refine (idle_t 2 _ (by omega) (by omega)).mono ?_
      rintro e w1 ho
      obtain ⟨A, c, rfl, hown, hbl⟩ := ho.open_
      clear ho
      go_wp2
      go_ret
      exact ⟨_, rfl, own_lower hown hb0.size, below_then hb0 hbl⟩
  · as_aux_lemma =>
    go_enter Tryz.func190, Tryz.ntmps190
    go_wp2_with fail
    refine (idle_t 2 _ (by omega) (by omega)).mono ?_
    rintro e w1 ho
    obtain ⟨A, c, rfl, hown, hbl⟩ := ho.open_
    clear ho
    go_wp2
    go_ret
    exact ⟨_, rfl, own_lower hown (by simp), below_then (below_alloc (Below.refl _ _) _) hbl⟩
  · as_aux_lemma =>
    go_enter Tryz.func190, Tryz.ntmps190
    go_wp2_with fail
    refine (idle_t 1 _ (by omega) (by omega)).mono ?_
    rintro e w1 ho
    obtain ⟨A1, c1, rfl, hr1, hb1⟩ := ho.got
    clear ho
    have hbt : Below w.heap.size w w1 := below_then (below_alloc (Below.refl _ _) _) hb1
    clear hb1
    go_wp2_with fail
    refine (call_t _).mono ?_
    rintro e w2 ho
    obtain ⟨A2, c2, rfl, hr2, hb2⟩ := ho.got
    clear ho
    replace hbt := below_then hbt hb2
    replace hr1 := (hr1.below hb2).more hb2.size
    clear hb2
    go_wp2_with fail
    refine (Row2 _ _ _ _ _ _ _ hr1 (some_small _ _ (by omega)) hr2 (call_small) _ rfl).mono ?_
    rintro e wz ho
    replace ho : OwnSteps (branchRow ⟨37, mode, reg⟩ cc) _ e wz := ho
    obtain ⟨A, c, rfl, hown, hbl⟩ := ho.open_
    clear ho
    go_wp2
    go_ret
    exact ⟨_, rfl, own_lower hown hbt.size, below_then hbt hbl⟩
  · as_aux_lemma =>
    go_enter Tryz.func190, Tryz.ntmps190
    go_wp2_with fail
    refine (idle_t 2 _ (by omega) (by omega)).mono ?_
    rintro e w1 ho
    obtain ⟨A1, c1, rfl, hr1, hb1⟩ := ho.got
    clear ho
    have hbt : Below w.heap.size w w1 := below_then (below_alloc (Below.refl _ _) _) hb1
    clear hb1
    go_wp2_with fail
    refine (call_t _).mono ?_
    rintro e w2 ho
    obtain ⟨A2, c2, rfl, hr2, hb2⟩ := ho.got
    clear ho
    replace hbt := below_then hbt hb2
    replace hr1 := (hr1.below hb2).more hb2.size
    clear hb2
    go_wp2_with fail
    refine (Row2 _ _ _ _ _ _ _ hr1 (some_small _ _ (by omega)) hr2 (call_small) _ rfl).mono ?_
    rintro e wz ho
    replace ho : OwnSteps (branchRow ⟨38, mode, reg⟩ cc) _ e wz := ho
    obtain ⟨A, c, rfl, hown, hbl⟩ := ho.open_
    clear ho
    go_wp2
    go_ret
    exact ⟨_, rfl, own_lower hown hbt.size, below_then hbt hbl⟩
  · as_aux_lemma =>
    have e35 : (op == 35) = false := beq_eq_false_iff_ne.mpr h35
    have e36 : (op == 36) = false := beq_eq_false_iff_ne.mpr h36
    have e37 : (op == 37) = false := beq_eq_false_iff_ne.mpr h37
    have e38 : (op == 38) = false := beq_eq_false_iff_ne.mpr h38
    rw [show branchRow ⟨op, mode, reg⟩ cc = some_ 4 1 from by simp [branchRow, h35, h36, h37, h38]]
    go_enter Tryz.func190, Tryz.ntmps190
    go_wp2_with fail
    refine (idle_t 1 _ (by omega) (by omega)).mono ?_
    rintro e w1 ho
    obtain ⟨A, c, rfl, hown, hbl⟩ := ho.open_
    clear ho
    go_wp2
    go_ret
    exact ⟨_, rfl, own_lower hown (by simp), below_then (below_alloc (Below.refl _ _) _) hbl⟩
end Go.Proofs.YtkdaphkpllgmbaaGreat

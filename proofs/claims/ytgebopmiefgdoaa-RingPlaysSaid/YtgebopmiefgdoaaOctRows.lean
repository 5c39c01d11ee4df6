/-
  Contracts of octet.Ones, Sum, Words, Bytes, of math/bits.OnesCount8.
-/
import Derived.Test.YtgebopmiefgdoaaBytes
import Derived.Test.YtgebopmiefgdoaaOct
import Derived.Deep.Draws
import Derived.Deep.QuietTactic
import Derived.BigQuiet
import Derived.Lib.Hide
import Derived.Lib.BitFns
namespace Go.Proofs.Ytgebopmiefgdoaa
open Go.RowKit
def popc (n : Nat) : Nat := if h : n = 0 then 0 else n % 2 + popc (n / 2)
decreasing_by omega
theorem popc_step (n : Nat) (h : 0 < n) : popc n = n % 2 + popc (n / 2) := by rw [popc, dif_neg (by omega)]
theorem popc_le (n : Nat) : popc n ≤ n := by
  induction n using Nat.strongRecOn with
  | ind n ih =>
    rcases Nat.eq_zero_or_pos n with h | h
    · subst h; simp [popc]
    · rw [popc_step n h]
      have := ih (n / 2) (by omega)
      omega
/-- popc, by eight steps: for the kernel. -/
def popc8 (n : Nat) : Nat := n % 2 + (n / 2 % 2 + (n / 4 % 2 + (n / 8 % 2 + (n / 16 % 2 + (n / 32 % 2 + (n / 64 % 2 + n / 128 % 2))))))
theorem popc_lt (n : Nat) (h : n < 256) : popc n = popc8 n := by
  have st : ∀ n, popc n = n % 2 + popc (n / 2) := fun n => by
    rcases Nat.eq_zero_or_pos n with h | h
    · subst h; simp [popc]
    · exact popc_step n h
  rw [st n, st (n / 2), st (n / 2 / 2), st (n / 2 / 2 / 2), st (n / 2 / 2 / 2 / 2), st (n / 2 / 2 / 2 / 2 / 2), st (n / 2 / 2 / 2 / 2 / 2 / 2), st (n / 2 / 2 / 2 / 2 / 2 / 2 / 2)]
  have h0 : n / 2 / 2 / 2 / 2 / 2 / 2 / 2 / 2 = 0 := by omega
  rw [h0]
  have : popc 0 = 0 := by simp [popc]
  unfold popc8
  omega
set_option maxRecDepth 1000000 in
set_option maxHeartbeats 2000000 in
theorem OnesCount8_any (c : Nat) (w : World) (h : c < 256) :
    Calls Try.prog 108 #[.int .u8 c] w fun e w' => e = .returned (.int .i64 (popc c)) ∧ w = w' := by
  go_enter Try.func108, Try.ntmps108
  go_wp2
  rename_i hsz
  go_ret
  have key : ∀ c : Fin Lib.pop8tab.size, (Lib.pop8tab[c.val]'c.isLt).toNat = popc8 c.val := by decide +kernel
  have hk : (Lib.pop8tab[c]'hsz).toNat = popc8 c := key ⟨c, hsz⟩
  have hle : popc8 c ≤ 8 := by unfold popc8; omega
  refine ⟨ret_int ?_, rfl⟩
  rw [popc_lt c h, hk]
  unfold wrap64
  omega
def onesL (l : List UInt8) : Nat := (l.map fun c => popc c.toNat).sum
def sumL (l : List UInt8) : Nat := (l.map fun c : UInt8 => c.toNat).sum
theorem sum_take (f : UInt8 → Nat) (l : List UInt8) (k : Nat) (c : UInt8) (h : l[k]? = some c) : ((l.take (k + 1)).map f).sum = ((l.take k).map f).sum + f c := by
  obtain ⟨hk, rfl⟩ := List.getElem?_eq_some_iff.1 h
  rw [List.take_succ_eq_append_getElem hk, List.map_append, List.sum_append]
  simp
theorem sum_le (f : UInt8 → Nat) (b : Nat) (hf : ∀ c, f c ≤ b) (l : List UInt8) : (l.map f).sum ≤ b * l.length := by
  induction l with
  | nil => simp
  | cons c l ih =>
    have := hf c
    rw [List.map_cons, List.sum_cons, List.length_cons, Nat.mul_succ]
    omega
theorem onesL_le (l : List UInt8) : onesL l ≤ 255 * l.length := sum_le _ 255 (fun c => by have := popc_le c.toNat; have := c.toNat_lt; omega) l
theorem sumL_le (l : List UInt8) : sumL l ≤ 255 * l.length := sum_le _ 255 (fun c => by have := c.toNat_lt; omega) l
set_option maxRecDepth 100000 in
set_option maxHeartbeats 2000000 in
theorem Ones_any (l : List UInt8) (A : Option Addr) (n c B : Nat) (w : World) (hr : Reads w B 1 A n (bytesV l)) (hn : n ≤ 1048576) :
    Calls Try.prog 38 #[.slice A n c] w fun e w' => e = .returned (.int .i64 (onesL l)) ∧ w = w' := by
  have hln : l.length = n := by simpa [bytesV] using hr.1
  have HLN := Lib.hid hln
  clear hln
  go_enter Try.func38, Try.ntmps38
  go_wp2
  go_loop [3, 8] (fun a i => ∃ k : Nat, k ≤ n ∧ i = .int .i64 k ∧ a = .int .i64 (onesL (l.take k))) (fun _ i => n - (intOf i).toNat)
  case atStart => exact ⟨0, by omega, rfl, rfl⟩
  case round =>
    obtain ⟨k, hk, rfl, rfl⟩ := hrel
    by_cases hlt : k < n
    · obtain ⟨ad, u, rfl, hab, hu, hcell⟩ := hr.at_ hlt
      obtain ⟨c, hx, rfl⟩ := bytesV_get l k u hu
      have HT := Lib.hid (sum_take (fun c => popc c.toNat) l k c hx)
      have hc2 := c.toNat_lt
      have hp := popc_le c.toNat
      have hle := onesL_le (l.take k)
      have hlk : (l.take k).length ≤ k := List.length_take_le _ _
      clear hu hx
      generalize ho : onesL (l.take k) = o at *
      have HO := Lib.hid ho
      clear ho
      go_wp2_with (go_at_call 108; refine (OnesCount8_any _ _ (by omega)).mono ?_; rintro e w1 ⟨rfl, rfl⟩)
      go_round
      case rel => exact ⟨k + 1, by omega, by go_num, by rw [show onesL (l.take (k + 1)) = o + popc c.toNat from by rw [← HO.out]; exact HT.out]; go_num⟩
      case measure => simp [intOf]; omega
    · obtain rfl : k = n := by omega
      have hall : l.take k = l := List.take_of_length_le (by rw [HLN.out]; exact Nat.le_refl _)
      rw [hall] at *
      clear hall
      go_wp2
      go_ret
      exact ⟨rfl, rfl⟩
set_option maxRecDepth 100000 in
set_option maxHeartbeats 2000000 in
theorem Sum_any (l : List UInt8) (A : Option Addr) (n c B : Nat) (w : World) (hr : Reads w B 1 A n (bytesV l)) (hn : n ≤ 1048576) :
    Calls Try.prog 39 #[.slice A n c] w fun e w' => e = .returned (.int .u8 ((sumL l % 256 : Nat) : Int)) ∧ w = w' := by
  have hln : l.length = n := by simpa [bytesV] using hr.1
  have HLN := Lib.hid hln
  clear hln
  go_enter Try.func39, Try.ntmps39
  go_wp2
  go_loop [3, 8] (fun a i => ∃ k : Nat, k ≤ n ∧ i = .int .i64 k ∧ a = .int .u8 ((sumL (l.take k) % 256 : Nat) : Int)) (fun _ i => n - (intOf i).toNat)
  case atStart => exact ⟨0, by omega, rfl, rfl⟩
  case round =>
    obtain ⟨k, hk, rfl, rfl⟩ := hrel
    by_cases hlt : k < n
    · obtain ⟨ad, u, rfl, hab, hu, hcell⟩ := hr.at_ hlt
      obtain ⟨c, hx, rfl⟩ := bytesV_get l k u hu
      have HT := Lib.hid (sum_take (fun c => c.toNat) l k c hx)
      have hc2 := c.toNat_lt
      have hm := Nat.mod_lt (sumL (l.take k)) (by omega : 256 > 0)
      clear hu hx
      generalize ho : sumL (l.take k) = o at *
      have HO := Lib.hid ho
      clear ho
      go_wp2
      go_round
      case rel => exact ⟨k + 1, by omega, by go_num, by rw [show sumL (l.take (k + 1)) = o + c.toNat from by rw [← HO.out]; exact HT.out]; exact congrArg (Value.int .u8) (by first | omega | (rw [IntKind.wrap_u8]; omega))⟩
      case measure => simp [intOf]; omega
    · obtain rfl : k = n := by omega
      have hall : l.take k = l := List.take_of_length_le (by rw [HLN.out]; exact Nat.le_refl _)
      rw [hall] at *
      clear hall
      go_wp2
      go_ret
      exact ⟨rfl, rfl⟩
def wordAt (l : List UInt8) (j : Nat) : Int := 256 * ((l.getD (2 * j) 0).toNat : Int) + ((l.getD (2 * j + 1) 0).toNat : Int)
def wordsL (l : List UInt8) (k : Nat) : List Int := (List.range k).map (wordAt l)
theorem wordsL_succ (l : List UInt8) (k : Nat) : wordsL l (k + 1) = wordsL l k ++ [wordAt l k] := by simp [wordsL, List.range_succ]
theorem wordsL_length (l : List UInt8) (k : Nat) : (wordsL l k).length = k := by simp [wordsL]
theorem wordAt_in (l : List UInt8) (j : Nat) : 0 ≤ wordAt l j ∧ wordAt l j ≤ 65535 := by
  unfold wordAt
  have h1 := (l.getD (2 * j) 0).toNat_lt
  have h2 := (l.getD (2 * j + 1) 0).toNat_lt
  omega
def wordsV (w : List Int) : List Value := w.map (Value.int .u16)
theorem wordsV_append (a b : List Int) : wordsV (a ++ b) = wordsV a ++ wordsV b := by simp [wordsV]
theorem wordsV_get (w : List Int) (k : Nat) (u : Value) (h : (wordsV w)[k]? = some u) : ∃ x, w[k]? = some x ∧ u = .int .u16 x := by
  unfold wordsV at h
  rw [List.getElem?_map] at h
  obtain ⟨c, h1, h2⟩ := Option.map_eq_some_iff.1 h
  exact ⟨c, h1, h2.symm⟩
theorem info_u16 : (Try.prog.info? 22).map (fun i => (i.zero, i.size, i.bytes)) = some (some (.int .u16 0), 1, 2) := by kernel_rfl
/-- What Words ends with. -/
def WordsPost (w : World) (ws : List Int) (e : Ending) (w' : World) : Prop :=
  ∃ v, e = .returned v ∧ w'.ownsRow w.heap.size 22 1 v ws.length (wordsV ws) ∧ Below w.heap.size w w'
def BytesPost (w : World) (l : List UInt8) (e : Ending) (w' : World) : Prop :=
  ∃ v, e = .returned v ∧ w'.ownsRow w.heap.size 5 1 v l.length (bytesV l) ∧ Below w.heap.size w w'
set_option maxRecDepth 100000 in
set_option maxHeartbeats 2000000 in
theorem Words_any (l : List UInt8) (A : Option Addr) (n c B : Nat) (w : World) (hB : B ≤ w.heap.size) (hr : Reads w B 1 A n (bytesV l)) (hn : n ≤ 1048576) :
    Calls Try.prog 41 #[.slice A n c] w (WordsPost w (wordsL l ((n + 1) / 2))) := by
  obtain ⟨i0, hi, hz0, hz1, hz2⟩ := info_parts info_u16
  have hln : l.length = n := by simpa [bytesV] using hr.1
  have HLN := Lib.hid hln
  clear hln
  go_enter Try.func41, Try.ntmps41
  go_wp2
  go_loopw [3, 4] (fun v i wr => ∃ k : Nat, 2 * k ≤ n + 1 ∧ i = .int .i64 (2 * k) ∧ wr.ownsRow w.heap.size 22 1 v k (wordsV (wordsL l k)) ∧ Below w.heap.size w wr) (fun _ i _ => n + 1 - (intOf i).toNat)
  case atStart => exact ⟨0, by omega, rfl, own_nil _ _ _ _, Below.refl _ _⟩
  case round =>
    obtain ⟨k, hk, rfl, hown, hbl⟩ := hrel
    by_cases hlt : 2 * k < n
    · obtain ⟨ad, u, rfl, hab, hu, hcell⟩ := hr.at_ hlt
      obtain ⟨c, hx, rfl⟩ := bytesV_get l _ u hu
      have hcell' := (hbl.cell (p := ad.add (2 * k)) (by rw [block_of_add]; omega)).trans hcell
      have hc2 := c.toNat_lt
      have hin := wordAt_in l k
      have hnew : Reads (wr.alloc (.cells #[.int .u16 (wordAt l k)] 22)) (wr.heap.size + 1) 1 (some ⟨wr.heap.size, 0, none⟩) 1 (wordsV [wordAt l k]) := Reads.new1 wr _ _ 1 _ rfl (Nat.lt_succ_self _)
      have hone : ∀ u ∈ wordsV [wordAt l k], u.oneCell' = true := by simp [wordsV, Value.oneCell']
      by_cases hlt2 : 2 * k + 1 < n
      · obtain ⟨ad2, u2, ha2, hab2, hu2, hcell2⟩ := hr.at_ hlt2
        obtain rfl := Option.some.inj ha2
        obtain ⟨d, hy, rfl⟩ := bytesV_get l _ u2 hu2
        have hcell2' := (hbl.cell (p := ad.add (2 * k + 1)) (by rw [block_of_add]; omega)).trans hcell2
        rw [add_pos _ _ (by omega)] at hcell2'
        have hd2 := d.toNat_lt
        have hwd : 256 * (c.toNat : Int) + (d.toNat : Int) = wordAt l k := by simp [wordAt, List.getD_eq_getElem?_getD, hx, hy]
        clear hu hcell hx hu2 hcell2 hy
        go_wp2_with (first | (go_at_call 23; refine (Word_any _ _ _ (by omega) (by omega) (by omega) (by omega)).mono ?_; rintro e w1 ⟨rfl, rfl⟩) | (at_builtin; refine wpList_append_any _ rfl (.tmp 22) (.tmp 29) 47 rfl w.heap.size 22 i0 (.int .u16 0) 1 2 Try.underlying47 hi hz0 hz1 hz2 rfl (by omega) _ k (wordsV (wordsL l k)) rfl (hown.alloc _) (wr.heap.size + 1) (some ⟨wr.heap.size, 0, none⟩) 1 1 (wordsV [wordAt l k]) rfl hnew hone (by simp only [maxLen]; omega) (by omega) (Nat.le_trans hbl.size (by simp)) ?_; intro v1 w1 hown1 hg1 hat1))
        go_roundw
        case rel => exact ⟨k + 1, by omega, by go_num, by rw [wordsL_succ, wordsV_append]; exact hown1, below_own (below_alloc' hbl) (hown.alloc _) hg1 (Nat.le_trans hbl.size (by simp))⟩
        case measure => simp [intOf]; omega
      · have hy : l[2 * k + 1]? = none := List.getElem?_eq_none (by rw [HLN.out]; omega)
        have hwd : 256 * (c.toNat : Int) + 0 = wordAt l k := by simp [wordAt, List.getD_eq_getElem?_getD, hx, hy]
        have hwd' : 256 * (c.toNat : Int) = wordAt l k := by omega
        clear hu hcell hx hy
        go_wp2_with (first | (go_at_call 23; refine (Word_any _ _ _ (by omega) (by omega) (by omega) (by omega)).mono ?_; rintro e w1 ⟨rfl, rfl⟩) | (at_builtin; refine wpList_append_any _ rfl (.tmp 22) (.tmp 29) 47 rfl w.heap.size 22 i0 (.int .u16 0) 1 2 Try.underlying47 hi hz0 hz1 hz2 rfl (by omega) _ k (wordsV (wordsL l k)) rfl (hown.alloc _) (wr.heap.size + 1) (some ⟨wr.heap.size, 0, none⟩) 1 1 (wordsV [wordAt l k]) rfl hnew hone (by simp only [maxLen]; omega) (by omega) (Nat.le_trans hbl.size (by simp)) ?_; intro v1 w1 hown1 hg1 hat1))
        go_roundw
        case rel => exact ⟨k + 1, by omega, by go_num, by rw [wordsL_succ, wordsV_append]; exact hown1, below_own (below_alloc' hbl) (hown.alloc _) hg1 (Nat.le_trans hbl.size (by simp))⟩
        case measure => simp [intOf]; omega
    · have hkk : (n + 1) / 2 = k := by omega
      have HK := Lib.hid hkk
      clear hkk
      go_wp2
      go_ret
      rw [HK.out]
      exact ⟨_, rfl, by rw [wordsL_length]; exact hown, hbl⟩
def wbytes (w : List Int) : List UInt8 := w.flatMap fun x => [UInt8.ofNat (x / 256).toNat, UInt8.ofNat (x % 256).toNat]
theorem wbytes_length (w : List Int) : (wbytes w).length = 2 * w.length := by
  induction w with
  | nil => rfl
  | cons c l ih => simp [wbytes] at *; omega
theorem wbytes_take (w : List Int) (k : Nat) (x : Int) (h : w[k]? = some x) : wbytes (w.take (k + 1)) = wbytes (w.take k) ++ [UInt8.ofNat (x / 256).toNat, UInt8.ofNat (x % 256).toNat] := by
  obtain ⟨hk, rfl⟩ := List.getElem?_eq_some_iff.1 h
  rw [List.take_succ_eq_append_getElem hk]
  unfold wbytes
  rw [List.flatMap_append]
  simp
theorem wbytes_get (w : List Int) (j : Nat) (x : Int) (h : w[j]? = some x) : (wbytes w)[2 * j]? = some (UInt8.ofNat (x / 256).toNat) ∧ (wbytes w)[2 * j + 1]? = some (UInt8.ofNat (x % 256).toNat) := by
  induction w generalizing j with
  | nil => simp at h
  | cons y l ih =>
    cases j with
    | zero => simp at h; subst h; simp [wbytes]
    | succ j =>
      simp at h
      have e1 : 2 * (j + 1) = 2 * j + 2 := by omega
      have := ih j h
      simpa [wbytes, e1] using this
/-- The words of the bytes of words are these. -/
theorem words_bytes (w : List Int) (h : ∀ x ∈ w, 0 ≤ x ∧ x ≤ 65535) : wordsL (wbytes w) w.length = w := by
  apply List.ext_getElem?
  intro j
  unfold wordsL
  rw [List.getElem?_map]
  rcases Nat.lt_or_ge j w.length with hj | hj
  · obtain ⟨x, hx⟩ : ∃ x, w[j]? = some x := ⟨_, List.getElem?_eq_getElem hj⟩
    obtain ⟨h1, h2⟩ := wbytes_get w j x hx
    obtain ⟨x0, x1⟩ := h x (List.mem_of_getElem? hx)
    rw [List.getElem?_range hj, hx]
    simp only [Option.map_some, wordAt, List.getD_eq_getElem?_getD, h1, h2, Option.getD_some, UInt8.toNat_ofNat']
    congr 1
    omega
  · rw [List.getElem?_eq_none (by simpa using hj), List.getElem?_eq_none hj]; rfl
set_option maxRecDepth 100000 in
set_option maxHeartbeats 2000000 in
theorem Bytes_any (ws : List Int) (hw : ∀ x ∈ ws, 0 ≤ x ∧ x ≤ 65535) (A : Option Addr) (n c B : Nat) (w : World) (hB : B ≤ w.heap.size) (hr : Reads w B 1 A n (wordsV ws)) (hn : n ≤ 1048576) :
    Calls Try.prog 42 #[.slice A n c] w (BytesPost w (wbytes ws)) := by
  obtain ⟨i0, hi, hz0, hz1, hz2⟩ := info_parts info_u8
  have hln : ws.length = n := by simpa [wordsV] using hr.1
  have HLN := Lib.hid hln
  have HW := Lib.hid hw
  clear hln hw
  have hmk : ∀ u : World, (Instr.makeSlice 37 (.int .i64 0) (.int .i64 (2 * (n : Int)))).run Try.prog u =
      .ok (.slice (some ⟨u.heap.size, 0, none⟩) 0 (2 * n)) (u.alloc (.cells (madeCells #[.int .u8 0] (2 * n)) 5)) := fun u => by
    have h := run_make (P := Try.prog) u 37 5 i0 (.int .u8 0) Try.underlying37 hi hz0 .i64 .i64 0 (2 * (n : Int)) (by omega) (by omega) (by rw [hz2]; omega) (by omega)
    have e : (2 * (n : Int)).toNat = 2 * n := by omega
    rw [e] at h
    simpa [hz1, Value.cells] using h
  go_enter Try.func42, Try.ntmps42
  go_wp2
  go_loopw [3, 12] (fun v i wr => ∃ k : Nat, k ≤ n ∧ i = .int .i64 k ∧ wr.ownsRow w.heap.size 5 1 v (2 * k) (bytesV (wbytes (ws.take k))) ∧ Below w.heap.size w wr) (fun _ i _ => n - (intOf i).toNat)
  case atStart =>
    refine ⟨0, by omega, rfl, ?_, below_alloc (Below.refl _ _) _⟩
    exact World.ownsRow_made w _ (2 * n) (Nat.le_refl _) (by simp only [maxLen]; omega) (by simp [madeCells])
  case round =>
    obtain ⟨k, hk, rfl, hown, hbl⟩ := hrel
    by_cases hlt : k < n
    · obtain ⟨ad, u, rfl, hab, hu, hcell⟩ := hr.at_ hlt
      obtain ⟨x, hx, rfl⟩ := wordsV_get ws k u hu
      have hcell' := (hbl.cell (p := ad.add k) (by rw [block_of_add]; omega)).trans hcell
      have HT := Lib.hid (wbytes_take ws k x hx)
      obtain ⟨x0, x1⟩ := HW.out x (List.mem_of_getElem? hx)
      have e1 : x / 256 = ((UInt8.ofNat (x / 256).toNat).toNat : Int) := by rw [UInt8.toNat_ofNat']; omega
      have e2 : x % 256 = ((UInt8.ofNat (x % 256).toNat).toNat : Int) := by rw [UInt8.toNat_ofNat']; omega
      have hnew : Reads (wr.alloc (.cells #[.int .u8 (x / 256), .int .u8 (x % 256)] 5)) (wr.heap.size + 1) 1 (some ⟨wr.heap.size, 0, none⟩) 2 (bytesV [UInt8.ofNat (x / 256).toNat, UInt8.ofNat (x % 256).toNat]) := by
        simp only [bytesV, List.map_cons, List.map_nil, ← e1, ← e2]
        exact Reads.new1 wr _ #[_, _] 2 _ rfl (Nat.lt_succ_self _)
      have hone := bytesV_one [UInt8.ofNat (x / 256).toNat, UInt8.ofNat (x % 256).toNat]
      clear hu hcell hx e1 e2
      go_wp2_with (first | (go_at_call 24; refine (High_any _ _ (by omega) (by omega)).mono ?_; rintro e w1 ⟨rfl, rfl⟩) | (go_at_call 25; refine (Low_any _ _ (by omega) (by omega)).mono ?_; rintro e w1 ⟨rfl, rfl⟩) | (at_builtin; refine wpList_append_any _ rfl (.tmp 16) (.tmp 21) 37 rfl w.heap.size 5 i0 (.int .u8 0) 1 1 Try.underlying37 hi hz0 hz1 hz2 rfl (by omega) _ (2 * k) (bytesV (wbytes (ws.take k))) rfl (hown.alloc _) (wr.heap.size + 1) (some ⟨wr.heap.size, 0, none⟩) 2 2 (bytesV [UInt8.ofNat (x / 256).toNat, UInt8.ofNat (x % 256).toNat]) rfl hnew hone (by simp only [maxLen]; omega) (by omega) (Nat.le_trans hbl.size (by simp)) ?_; intro v1 w1 hown1 hg1 hat1))
      go_roundw
      case rel =>
        refine ⟨k + 1, by omega, by go_num, ?_, below_own (below_alloc' hbl) (hown.alloc _) hg1 (Nat.le_trans hbl.size (by simp))⟩
        rw [HT.out, bytesV_append, show 2 * (k + 1) = 2 * k + 2 by omega]
        exact hown1
      case measure => simp [intOf]; omega
    · obtain rfl : k = n := by omega
      have hall : ws.take k = ws := List.take_of_length_le (by rw [HLN.out]; exact Nat.le_refl _)
      rw [hall] at hown
      have HL2 : Hid (2 * k = (wbytes ws).length) := by unfold Hid; rw [wbytes_length, HLN.out]
      clear hall
      go_wp2
      go_ret
      exact ⟨_, rfl, by rw [← HL2.out]; exact hown, hbl⟩
end Go.Proofs.Ytgebopmiefgdoaa

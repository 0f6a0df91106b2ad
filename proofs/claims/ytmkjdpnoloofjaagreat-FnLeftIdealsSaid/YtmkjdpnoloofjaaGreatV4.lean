/-
  LawFnLeftIdeals: part 4 of the texts that the proof needs. No condition.
-/
import Derived.Test.YtmkjdpnoloofjaaGreatV3
namespace Go.Proofs.YtmkjdpnoloofjaaGreat
theorem xor_eq_iff (a k m : Nat) : a ^^^ k = m ↔ k = a ^^^ m := by
 constructor
 · rintro rfl; rw [← Nat.xor_assoc, Nat.xor_self, Nat.zero_xor]
 · rintro rfl; rw [← Nat.xor_assoc, Nat.xor_self, Nat.zero_xor]
/-- What row a adds to place m. -/
def term (p : Int) (sq : List Int) (t : Nat → Nat → Bool) (x y : List Int) (m a : Nat) : Int :=
 if t a (a ^^^ m) = true then x.getD a 0 * y.getD (a ^^^ m) 0 * fac p sq a (a ^^^ m) else 0
theorem addRow_getD (p : Int) (sq : List Int) (t : Nat → Nat → Bool) (x y : List Int) (a : Nat) (out : List Int) (m : Nat) (hm : m < out.length) (h0 : out.getD m 0 % p = out.getD m 0) :
    ∀ k, (addRow p sq t x y a out k).getD m 0 = if a ^^^ m < k then (out.getD m 0 + term p sq t x y m a) % p else out.getD m 0 := by
 intro k
 induction k with
 | zero => rw [if_neg (by omega)]; simp [addRow]
 | succ k ih =>
  rw [addRow_succ]
  have hl : (addRow p sq t x y a out k).length = out.length := addRow_len _ _ _ _ _ _ _ _
  unfold addPair
  by_cases hk : a ^^^ k = m
  · have hk' := (xor_eq_iff a k m).1 hk
    have h1 : ¬ a ^^^ m < k := by omega
    have h2 : a ^^^ m < k + 1 := by omega
    rw [if_neg h1] at ih
    rw [if_pos (c := a ^^^ m < k + 1) h2]
    unfold term
    rw [← hk']
    by_cases hc : x.getD a 0 ≠ 0 ∧ y.getD k 0 ≠ 0 ∧ t a k = true
    · rw [if_pos hc, if_pos hc.2.2, getD_set, if_pos ⟨hk, by rw [hl, hk]; exact hm⟩, hk, ih]
    · rw [if_neg hc, ih]
      by_cases ht : t a k = true
      · rw [if_pos ht]
        have : x.getD a 0 * y.getD k 0 = 0 := by
         by_cases h1 : x.getD a 0 = 0
         · rw [h1, Int.zero_mul]
         · by_cases h2 : y.getD k 0 = 0
           · rw [h2, Int.mul_zero]
           · exact absurd ⟨h1, h2, ht⟩ hc
        rw [this, Int.zero_mul, Int.add_zero, h0]
      · rw [if_neg ht, Int.add_zero, h0]
  · have hk' : k ≠ a ^^^ m := fun e => hk ((xor_eq_iff a k m).2 e)
    have e : (if x.getD a 0 ≠ 0 ∧ y.getD k 0 ≠ 0 ∧ t a k = true then (addRow p sq t x y a out k).set (a ^^^ k) (((addRow p sq t x y a out k).getD (a ^^^ k) 0 + x.getD a 0 * y.getD k 0 * fac p sq a k) % p) else addRow p sq t x y a out k).getD m 0 = (addRow p sq t x y a out k).getD m 0 := by
     split
     · rw [getD_set, if_neg (fun h => hk h.1)]
     · rfl
    rw [e, ih]
    by_cases h1 : a ^^^ m < k
    · rw [if_pos h1, if_pos (by omega)]
    · rw [if_neg h1, if_neg (by omega)]
theorem addRows_getD (p : Int) (sq : List Int) (t : Nat → Nat → Bool) (x y : List Int) (n m : Nat) (hy : y.length = pw n) (hm : m < pw n) :
    ∀ k, k ≤ pw n → (addRows p sq t x y (List.replicate (pw n) 0) k).getD m 0 = sumTo k (term p sq t x y m) % p := by
 intro k
 induction k with
 | zero =>
  intro _
  rw [show addRows p sq t x y (List.replicate (pw n) 0) 0 = List.replicate (pw n) 0 from rfl, getD_of_lt 0 (by simpa using hm)]
  simp [sumTo]
 | succ k ih =>
  intro hk
  have ih := ih (by omega)
  have hl : (addRows p sq t x y (List.replicate (pw n) 0) k).length = pw n := by rw [addRows_len]; simp
  rw [addRows_succ, addRow_getD p sq t x y k _ m (by rw [hl]; exact hm) (by rw [ih, Int.emod_emod_of_dvd _ (Int.dvd_refl p)]), if_pos (by rw [hy]; exact xor_lt (by omega) hm), ih]
  exact sumTo_step p k _
theorem prodL_getD (p : Int) (sq : List Int) (t : Nat → Nat → Bool) (x y : List Int) (n m : Nat) (hx : x.length = pw n) (hy : y.length = pw n) (hm : m < pw n) :
    (prodL p sq t x y).getD m 0 = sumTo (pw n) (term p sq t x y m) % p := by
 unfold prodL
 rw [hx]
 exact addRows_getD p sq t x y n m hy hm _ (Nat.le_refl _)
theorem sumTo_zero {n : Nat} {f : Nat → Int} (h : ∀ i, i < n → f i = 0) : sumTo n f = 0 := by
 induction n with
 | zero => rfl
 | succ n ih => rw [sumTo_succ, ih (fun i hi => h i (by omega)), h n (by omega)]; rfl
theorem sumTo_one {n : Nat} {f : Nat → Int} (k : Nat) (hk : k < n) (h : ∀ i, i < n → i ≠ k → f i = 0) : sumTo n f = f k := by
 induction n with
 | zero => omega
 | succ n ih =>
  rw [sumTo_succ]
  by_cases e : k = n
  · subst e; rw [sumTo_zero (fun i hi => h i (by omega) (by omega)), Int.zero_add]
  · rw [ih (by omega) (fun i hi => h i (by omega)), h n (by omega) (by omega), Int.add_zero]
theorem sumTo_add (n : Nat) (f g : Nat → Int) : sumTo n (fun i => f i + g i) = sumTo n f + sumTo n g := by
 induction n with
 | zero => rfl
 | succ n ih => rw [sumTo_succ, sumTo_succ, sumTo_succ, ih]; omega
theorem sumTo_mul (n : Nat) (f : Nat → Int) (c : Int) : sumTo n (fun i => c * f i) = c * sumTo n f := by
 induction n with
 | zero => simp [sumTo]
 | succ n ih => rw [sumTo_succ, sumTo_succ, ih, Int.mul_add]
theorem sumTo_comm (n m : Nat) (f : Nat → Nat → Int) : sumTo n (fun i => sumTo m (f i)) = sumTo m (fun j => sumTo n (fun i => f i j)) := by
 induction n with
 | zero => exact (sumTo_zero (fun _ _ => rfl)).symm
 | succ n ih => rw [sumTo_succ, ih, ← sumTo_add]; rfl
theorem pc_zero : pc 0 = 0 := by simp [pc]
theorem bit_zero (i : Nat) : bit 0 i = 0 := by simp [bit]
theorem fac_zero_left (p : Int) (sq : List Int) (b : Nat) : fac p sq 0 b = 1 := by
 have h1 : ∀ i, swaps 0 b i = 0 := by
  intro i
  induction i with
  | zero => rfl
  | succ i ih => simp [swaps, ih, pc_zero]
 have h2 : ∀ i, common p sq 0 b i = 1 := by
  intro i
  induction i with
  | zero => rfl
  | succ i ih => simp [common, ih, bit_zero]
 unfold fac
 rw [h1, h2]; rfl
theorem bladeL_getD (n m i : Nat) (hi : i < pw n) : (bladeL n m).getD i 0 = if m = i then 1 else 0 := by
 unfold bladeL
 rw [getD_set]
 by_cases h : m = i
 · subst h; rw [if_pos ⟨rfl, by simpa using hi⟩, if_pos rfl]
 · rw [if_neg (fun hh => h hh.1), if_neg h, getD_of_lt 0 (by simpa using hi)]; simp
/-- 1 times a multivector. -/
theorem one_mul (p : Int) (sq : List Int) (n : Nat) (xs : List Int) (hx : xs.length = pw n) (hn : NumsL p xs) : mulL p sq (bladeL n 0) xs = xs := by
 apply list_ext_getD 0 (by unfold mulL; rw [prodL_len, bladeL_len, hx])
 intro m hm
 have hm : m < pw n := by unfold mulL at hm; rwa [prodL_len, bladeL_len] at hm
 unfold mulL
 rw [prodL_getD p sq _ _ xs n m (bladeL_len n 0) hx hm, sumTo_one 0 (pw_pos n) (fun i hi h0 => by unfold term; rw [if_pos rfl, bladeL_getD n 0 i hi, if_neg (fun e => h0 e.symm), Int.zero_mul, Int.zero_mul])]
 unfold term
 rw [if_pos rfl, bladeL_getD n 0 0 (pw_pos n), if_pos rfl, Nat.zero_xor, fac_zero_left, Int.one_mul, Int.mul_one]
 obtain ⟨h1, h2⟩ := hn _ (getD_mem 0 (by rw [hx]; exact hm))
 exact Int.emod_eq_of_lt h1 h2
theorem mulL_len (p : Int) (sq xs ys : List Int) : (mulL p sq xs ys).length = xs.length := prodL_len _ _ _ _ _
theorem mulL_nums {p : Int} (hp : 0 < p) (sq xs ys : List Int) : NumsL p (mulL p sq xs ys) := prodL_nums sq _ _ _ hp
theorem timesL_two (p : Int) (sq : List Int) (n : Nat) (xs ys : List Int) (hx : xs.length = pw n) (hn : NumsL p xs) : timesL p sq n [xs, ys] = mulL p sq xs ys := by
 show mulL p sq (mulL p sq (bladeL n 0) xs) ys = _
 rw [one_mul p sq n xs hx hn]
end Go.Proofs.YtmkjdpnoloofjaaGreat
namespace Go.Proofs.YtmkjdpnoloofjaaGreat
open Go.RowKit
/-- The places 1, 2, 4, .. of a list. -/
def partL (n : Nat) (x : List Int) : List Int := (List.range n).map fun i => x.getD (2 ^ i) 0
theorem partL_nums {p : Int} (hp : 0 < p) (n : Nat) (x : List Int) (h : NumsL p x) : NumsL p (partL n x) := fun y hy => by
 obtain ⟨i, _, rfl⟩ := List.mem_map.1 hy
 exact h.getD hp _
theorem partL_succ (k : Nat) (x : List Int) : partL (k + 1) x = partL k x ++ [x.getD (2 ^ k) 0] := by simp [partL, List.range_succ]
set_option maxHeartbeats 800000 in
set_option maxRecDepth 8000 in
theorem l04List_any (P : Int) (A : Option Addr) (n c : Nat) (X : Option Addr) (cx : Nat) (x : List Int) (w : World) (hn : n ≤ 10) (hx : Rd w X (pw n) (ints x)) :
    Calls Tryz.prog 176 #[.agg #[.int .i64 P, .slice A n c], .slice X (pw n) cx] w fun e w' => ∃ A' c', e = .returned (.slice A' n c') ∧ MkI w w' A' n c' (partL n x) := by
 have hB0 : Below w.heap.size w (w.alloc (.cells #[.int .i64 P, .slice A n c] 26)) := (Below.refl _ w).alloc (Nat.le_refl _) _
 have hk0 : Blk (w.alloc (.cells #[.int .i64 P, .slice A n c] 26)) w.heap.size 26 #[.int .i64 P, .slice A n c] := Blk.new w _ _
 have hM0 := Mk.lit (E := 2) hB0 #[] (by simp)
 have hM : MkI w ((w.alloc (.cells #[.int .i64 P, .slice A n c] 26)).alloc (.cells #[] 2)) (some ⟨w.heap.size + 1, 0, none⟩) 0 0 [] := by simpa [MkI, ints] using hM0
 have hk1 := hk0.alloc (.cells #[] 2)
 go_enter Tryz.func176, Tryz.ntmps176
 go_wp2
 clear hM0 hB0 hk0
 obtain ⟨w1, hw1⟩ : ∃ W, W = (w.alloc (.cells #[.int .i64 P, .slice A n c] 26)).alloc (.cells #[] 2) := ⟨_, rfl⟩
 rw [← hw1] at hM hk1 ⊢
 clear hw1
 go_loopw [5, 6] (fun out i wr => ∃ (k : Nat) (A' : Option Addr) (c' : Nat), k ≤ n ∧ i = .int .i64 k ∧ out = .slice A' k c' ∧ MkI w wr A' k c' (partL k x) ∧ Blk wr w.heap.size 26 #[.int .i64 P, .slice A n c]) (fun _ i _ => n - (intOf i).toNat)
 case atStart => exact ⟨0, _, _, by omega, rfl, rfl, by simpa [partL] using hM, hk1⟩
 case round =>
  obtain ⟨k, A', c', hk, rfl, rfl, hM2, hk2⟩ := hrel
  clear hM hk1
  obtain ⟨kc0, kc1⟩ := hk2.two
  by_cases hlt : k < n
  · have h2 := two_lt hlt
    have hw : wrap64 (2 ^ k) = ((2 ^ k : Nat) : Int) := wrap_pw k (by omega)
    obtain ⟨q, hq⟩ : ∃ q : Nat, q = 2 ^ k := ⟨_, rfl⟩
    rw [← hq] at h2 hw
    obtain ⟨gx, ox, rfl, hxk, hcx⟩ := (hx.below hM2.b).int h2
    have HV : Hid (partL (k + 1) x = partL k x ++ [x[q]]) := Lib.hid (by rw [partL_succ, ← hq, List.getD_eq_getElem?_getD, List.getElem?_eq_getElem hxk]; rfl)
    have HM := Lib.hid hM2
    have HNE := Lib.hid (Own.ne_blk hM2.2 hk2 (by decide))
    clear hq hM2
    go_wp2_with (at_builtin; refine wpList_app1 w _ 24 2 _ _ Tryz.underlying24 info_i rfl (by omega) rfl _ _ rfl A' k c' _ _ HM.out (by omega) rfl rfl rfl ?_; intro A2 c2 w2 hM3 hgr _)
    have hk3 := hk2.grown hgr HNE.out
    go_roundw
    case rel => exact ⟨k + 1, A2, c2, by omega, by go_num, rfl, by rw [HV.out]; simpa [MkI, ints] using hM3, hk3⟩
    case measure => simp [intOf]; omega
  · obtain rfl : k = n := by omega
    go_wp2
    go_ret
    exact ⟨_, _, rfl, hM2⟩
theorem isMu_spec3 {P : Int} {sq ys : List Int} (h : isMu P sq ys = true) : ys.length = pw sq.length ∧ NumsL P ys := by
 unfold isMu at h
 simp only [Bool.and_eq_true, beq_iff_eq] at h
 exact ⟨by have := h.1; omega, nums_numsL h.2⟩
theorem codeM_spec3 {P : Int} {sq : List Int} {ms : List (List Int)} (h : codeM P sq ms = 0) : isP P = true ∧ 2 ≤ P ∧ P ≤ 13 ∧ 1 ≤ sq.length ∧ sq.length ≤ 6 ∧ NumsL P sq ∧ ∀ ys ∈ ms, ys.length = pw sq.length ∧ NumsL P ys := by
 obtain ⟨h1, h2⟩ := codeM_sp h
 obtain ⟨hp, hd1, hd2, hnum⟩ := isSp_dim h1
 have := isP_ge hp
 exact ⟨hp, by omega, by omega, hd1, hd2, nums_numsL hnum, fun ys hy => isMu_spec3 (h2 ys hy)⟩
theorem Blk.newAt3 {w : World} {t : TypeId} {cs : Array Value} {g : Nat} (hg : g = w.heap.size) : Blk (w.alloc (.cells cs t)) g t cs := hg ▸ Blk.new w t cs
theorem ret_bi3 {R : Bool × Int} {x : Bool} {y : Int} (h : R = (x, y)) : Ending.returned (.tuple #[.bool x, .int .i64 y]) = .returned (.tuple #[.bool R.1, .int .i64 R.2]) := by rw [h]
theorem noRow3 {w w' : World} {R : List Int × Int} {x : Int} (hR : R = ([], x)) (hB : Below w.heap.size w w') :
    ∃ (A' : Option Addr) (k c' : Nat), Ending.returned (.tuple #[.slice none 0 0, .int .i64 x]) = .returned (.tuple #[.slice A' k c', .int .i64 R.2]) ∧ MkI w w' A' k c' R.1 := by
 subst hR
 exact ⟨none, 0, 0, rfl, Mk.nil hB⟩
theorem noMat3 {w w' : World} {R : List (List Int) × Int} {x : Int} (hR : R = ([], x)) (hB : Below w.heap.size w w') :
    ∃ (A' : Option Addr) (k c' : Nat), Ending.returned (.tuple #[.slice none 0 0, .int .i64 x]) = .returned (.tuple #[.slice A' k c', .int .i64 R.2]) ∧ MkII w w' A' k c' R.1 := by
 subst hR
 exact ⟨none, 0, 0, rfl, MkII.nil hB⟩
theorem aMat3 {w w' : World} {R : List (List Int) × Int} {A : Option Addr} {k c : Nat} {L : List (List Int)} {x : Int} (hR : R = (L, x)) (hM : MkII w w' A k c L) :
    ∃ (A' : Option Addr) (k' c' : Nat), Ending.returned (.tuple #[.slice A k c, .int .i64 x]) = .returned (.tuple #[.slice A' k' c', .int .i64 R.2]) ∧ MkII w w' A' k' c' R.1 := by
 subst hR
 exact ⟨_, _, _, rfl, hM⟩
/-- A vector with all numbers multiplied by the squares. -/
def weiL (P : Int) (sq v : List Int) : List Int := tab v.length fun i => v.getD i 0 * sq.getD i 0 % P
theorem weiL_len (P : Int) (sq v : List Int) : (weiL P sq v).length = v.length := tab_len _ _
/-- The product of two vectors. -/
def pairL (P : Int) (sq v u : List Int) : Int := dotL P (weiL P sq v) u
theorem pairL_sum {P : Int} {sq v u : List Int} {n : Nat} (hv : v.length = n) : pairL P sq v u = (sumTo n fun i => v.getD i 0 * u.getD i 0 % P * sq.getD i 0) % P := by
 unfold pairL dotL
 rw [weiL_len, hv]
 refine sumTo_mod P fun i hi => ?_
 unfold weiL
 rw [tab_getD (by omega), Int.mul_emod, Int.emod_emod_of_dvd _ (Int.dvd_refl P), ← Int.mul_emod, Int.mul_emod (v.getD i 0 * u.getD i 0 % P), Int.emod_emod_of_dvd _ (Int.dvd_refl P), ← Int.mul_emod, Int.mul_assoc, Int.mul_comm (sq.getD i 0), ← Int.mul_assoc]
set_option maxHeartbeats 3200000 in
set_option maxRecDepth 8000 in
theorem l03Pair_any (P : Int) (A : Option Addr) (n c : Nat) (sq : List Int) (X : Option Addr) (cx : Nat) (v : List Int) (Y : Option Addr) (cy : Nat) (u : List Int) (w : World) (hp : 2 ≤ P) (hp2 : P ≤ 13) (hn : n ≤ 6) (ha : Rd w A n (ints sq)) (hs : NumsL P sq) (hx : Rd w X n (ints v)) (hv : NumsL P v) (hy : Rd w Y n (ints u)) (hu : NumsL P u) :
    Calls Tryz.prog 178 #[.agg #[.int .i64 P, .slice A n c], .slice X n cx, .slice Y n cy] w fun e w' => e = .returned (.int .i64 (pairL P sq v u)) ∧ Below w.heap.size w w' := by
 have HPL : Hid (pairL P sq v u = (sumTo n fun i => v.getD i 0 * u.getD i 0 % P * sq.getD i 0) % P) := Lib.hid (pairL_sum hx.lenI)
 have hB0 : Below w.heap.size w (w.alloc (.cells #[.int .i64 P, .slice A n c] 26)) := zG.alloc (Nat.le_refl _) _
 have k0 : Blk (w.alloc (.cells #[.int .i64 P, .slice A n c] 26)) w.heap.size 26 #[.int .i64 P, .slice A n c] := Blk.new _ _ _
 go_enter Tryz.func178, Tryz.ntmps178
 go_wp2
 go_loopw [7, 8] (fun s i wr => ∃ j : Nat, j ≤ n ∧ i = .int .i64 j ∧ s = .int .i64 ((sumTo j fun i => v.getD i 0 * u.getD i 0 % P * sq.getD i 0) % P) ∧ Below w.heap.size w wr ∧ Blk wr w.heap.size 26 #[.int .i64 P, .slice A n c]) (fun _ i _ => n - (intOf i).toNat)
 case atStart => exact ⟨0, by omega, rfl, by simp [sumTo], hB0, k0⟩
 case round =>
  obtain ⟨j, hj, rfl, rfl, hB1, k1⟩ := hrel
  clear hB0 k0
  have hsb := emod_small (sumTo j fun i => v.getD i 0 * u.getD i 0 % P * sq.getD i 0) P (by omega)
  have hst := sumTo_step P j fun i => v.getD i 0 * u.getD i 0 % P * sq.getD i 0
  have HEN : Hid (j = n → pairL P sq v u = (sumTo j fun i => v.getD i 0 * u.getD i 0 % P * sq.getD i 0) % P) := Lib.hid (fun h => by rw [HPL.out, h])
  obtain ⟨s, hse⟩ : ∃ s, s = (sumTo j fun i => v.getD i 0 * u.getD i 0 % P * sq.getD i 0) % P := ⟨_, rfl⟩
  rw [← hse] at hsb hst HEN ⊢
  clear hse
  by_cases hlt : j < n
  · obtain ⟨g, o, rfl, hxj, hcx⟩ := (hx.below hB1).int hlt
    obtain ⟨g2, o2, rfl, hyj, hcy⟩ := (hy.below hB1).int hlt
    obtain ⟨g3, o3, rfl, hzj, hcz⟩ := (ha.below hB1).int hlt
    obtain ⟨x1, x2⟩ := hv _ (List.getElem_mem hxj)
    obtain ⟨y1, y2⟩ := hu _ (List.getElem_mem hyj)
    obtain ⟨z1, z2⟩ := hs _ (List.getElem_mem hzj)
    have HST : Hid ((sumTo (j + 1) fun i => v.getD i 0 * u.getD i 0 % P * sq.getD i 0) % P = (s + v[j] * u[j] % P * sq[j]) % P) := Lib.hid (by rw [← hst, getD_of_lt 0 hxj, getD_of_lt 0 hyj, getD_of_lt 0 hzj])
    clear hst
    obtain ⟨xa, hxe⟩ : ∃ xa, xa = v[j] := ⟨_, rfl⟩
    obtain ⟨ya, hye⟩ : ∃ ya, ya = u[j] := ⟨_, rfl⟩
    obtain ⟨za, hze⟩ : ∃ za, za = sq[j] := ⟨_, rfl⟩
    rw [← hxe] at hcx x1 x2 HST
    rw [← hye] at hcy y1 y2 HST
    rw [← hze] at hcz z1 z2 HST
    obtain ⟨m1, m2⟩ := mul_small x1 (show xa ≤ 13 by omega) y1 (show ya ≤ 13 by omega)
    obtain ⟨r1, r2⟩ := emod_small (xa * ya) P (by omega)
    obtain ⟨m3, m4⟩ := mul_small r1 (show xa * ya % P ≤ 13 by omega) z1 (show za ≤ 13 by omega)
    have W1 := i64_fit (xa * ya) (by omega) (by omega)
    have W2 := i64_fit (xa * ya % P * za) (by omega) (by omega)
    have W3 := i64_fit (s + xa * ya % P * za) (by omega) (by omega)
    have T1 := Int.tmod_eq_emod_of_nonneg (b := P) m1
    have T2 := Int.tmod_eq_emod_of_nonneg (a := s + xa * ya % P * za) (b := P) (by omega)
    have hP0 : (P == 0) = false := by simp; omega
    have hP1 : (P == -1) = false := by simp; omega
    have hP2 : ¬ P = 0 := by omega
    have i1 : (0 : Int) ≤ (j : Int) := by omega
    have i2 : (j : Int) < (n : Int) := by omega
    obtain ⟨q0, q1⟩ := k1.two
    clear hxe hye hze hxj hyj hzj
    go_wp2
    refine wp_obs 23 [[],[],[],[1,2],[1,2,3],[],[],[5,6],[5,6,7],[1,2,3,4,5,6,7,8],[],[10],[1,2,3,4,5,6,7,8,9,10,11],[],[13],[],[13,14,15],[13,14,15,16],[1,2,3,4,5,6,7,8,9,10,11,12,13,14,15,16,17],[0,1,2,3,4,5,6,7,8,9,10,11,12,13,14,15,16,17,18],[],[20],[0,1,2,3,4,5,6,7,8,9,10,11,12,13,14,15,16,17,18,19,20,21],[0,1,2,3,4,5,6,7,8,9,10,11,12,13,14,15,16,17,18,19,20,21,22]] [VIs (.int .i64 (s)), VIs (.slice (some ⟨g, o, none⟩) n cx), VIs (.int .i64 (j)), VIs (.pointer (some ⟨g, o + j, none⟩)), VIs (.int .i64 (xa)), VIs (.slice (some ⟨g2, o2, none⟩) n cy), VIs (.int .i64 (j)), VIs (.pointer (some ⟨g2, o2 + j, none⟩)), VIs (.int .i64 (ya)), VIs (.int .i64 (xa * ya)), VIs (.pointer (some ⟨w.heap.size, 0, none⟩)), VIs (.int .i64 (P)), VIs (.int .i64 (xa * ya % P)), VIs (.pointer (some ⟨w.heap.size, 1, none⟩)), VIs (.slice (some ⟨g3, o3, none⟩) n c), VIs (.int .i64 (j)), VIs (.pointer (some ⟨g3, o3 + j, none⟩)), VIs (.int .i64 (za)), VIs (.int .i64 (xa * ya % P * za)), VIs (.int .i64 (s + xa * ya % P * za)), VIs (.pointer (some ⟨w.heap.size, 0, none⟩)), VIs (.int .i64 (P)), VIs (.int .i64 ((s + xa * ya % P * za) % P))] (fun w' => w'.cell? ⟨g, o + j, none⟩ = some (.int .i64 xa) ∧ w'.cell? ⟨g2, o2 + j, none⟩ = some (.int .i64 ya) ∧ w'.cell? ⟨g3, o3 + j, none⟩ = some (.int .i64 za) ∧ Blk w' w.heap.size 26 #[.int .i64 P, .slice (some ⟨g3, o3, none⟩) n c] ∧ Below wr.heap.size wr w') (by kernel_rfl) (by kernel_rfl) (fun _ _ h hb => ⟨(hb.cell (World.block_lt_of_cell? _ _ h.1)).trans h.1, (hb.cell (World.block_lt_of_cell? _ _ h.2.1)).trans h.2.1, (hb.cell (World.block_lt_of_cell? _ _ h.2.2.1)).trans h.2.2.1, h.2.2.2.1.below hb h.2.2.2.1.lt, h.2.2.2.2.trans (hb.mono h.2.2.2.2.size)⟩) (⟨hcx, hcy, hcz, k1.drew, zG.drew⟩) (fun x => ?_)
    refine zS (fun w' hS hV K hK => ?_) ?_
    · have q2 := hS.1; have q3 := hS.2.1; have q4 := hS.2.2.1; obtain ⟨q0, q1⟩ := hS.2.2.2.1.two; go_simp; exact zO hK
    refine zS (fun w' hS hV K hK => ?_) ?_
    · have q2 := hS.1; have q3 := hS.2.1; have q4 := hS.2.2.1; obtain ⟨q0, q1⟩ := hS.2.2.2.1.two; go_simp; exact zO hK
    refine zS (fun w' hS hV K hK => ?_) ?_
    · have q2 := hS.1; have q3 := hS.2.1; have q4 := hS.2.2.1; obtain ⟨q0, q1⟩ := hS.2.2.2.1.two; go_simp; exact zO hK
    refine zS (fun w' hS hV K hK => ?_) ?_
    · have e1 := zQ hV 1; have e2 := zQ hV 2; have q2 := hS.1; have q3 := hS.2.1; have q4 := hS.2.2.1; obtain ⟨q0, q1⟩ := hS.2.2.2.1.two; go_simp; exact zO hK
    refine zS (fun w' hS hV K hK => ?_) ?_
    · have e3 := zQ hV 3; have q2 := hS.1; have q3 := hS.2.1; have q4 := hS.2.2.1; obtain ⟨q0, q1⟩ := hS.2.2.2.1.two; go_simp; exact zO hK
    refine zS (fun w' hS hV K hK => ?_) ?_
    · have q2 := hS.1; have q3 := hS.2.1; have q4 := hS.2.2.1; obtain ⟨q0, q1⟩ := hS.2.2.2.1.two; go_simp; exact zO hK
    refine zS (fun w' hS hV K hK => ?_) ?_
    · have q2 := hS.1; have q3 := hS.2.1; have q4 := hS.2.2.1; obtain ⟨q0, q1⟩ := hS.2.2.2.1.two; go_simp; exact zO hK
    refine zS (fun w' hS hV K hK => ?_) ?_
    · have e5 := zQ hV 5; have e6 := zQ hV 6; have q2 := hS.1; have q3 := hS.2.1; have q4 := hS.2.2.1; obtain ⟨q0, q1⟩ := hS.2.2.2.1.two; go_simp; exact zO hK
    refine zS (fun w' hS hV K hK => ?_) ?_
    · have e7 := zQ hV 7; have q2 := hS.1; have q3 := hS.2.1; have q4 := hS.2.2.1; obtain ⟨q0, q1⟩ := hS.2.2.2.1.two; go_simp; exact zO hK
    refine zS (fun w' hS hV K hK => ?_) ?_
    · have e4 := zQ hV 4; have e8 := zQ hV 8; have q2 := hS.1; have q3 := hS.2.1; have q4 := hS.2.2.1; obtain ⟨q0, q1⟩ := hS.2.2.2.1.two; go_simp; exact zO hK
    refine zS (fun w' hS hV K hK => ?_) ?_
    · have q2 := hS.1; have q3 := hS.2.1; have q4 := hS.2.2.1; obtain ⟨q0, q1⟩ := hS.2.2.2.1.two; go_simp; exact zO hK
    refine zS (fun w' hS hV K hK => ?_) ?_
    · have e10 := zQ hV 10; have q2 := hS.1; have q3 := hS.2.1; have q4 := hS.2.2.1; obtain ⟨q0, q1⟩ := hS.2.2.2.1.two; go_simp; exact zO hK
    refine zS (fun w' hS hV K hK => ?_) ?_
    · have e9 := zQ hV 9; have e11 := zQ hV 11; have q2 := hS.1; have q3 := hS.2.1; have q4 := hS.2.2.1; obtain ⟨q0, q1⟩ := hS.2.2.2.1.two; go_simp; exact zO hK
    refine zS (fun w' hS hV K hK => ?_) ?_
    · have q2 := hS.1; have q3 := hS.2.1; have q4 := hS.2.2.1; obtain ⟨q0, q1⟩ := hS.2.2.2.1.two; go_simp; exact zO hK
    refine zS (fun w' hS hV K hK => ?_) ?_
    · have e13 := zQ hV 13; have q2 := hS.1; have q3 := hS.2.1; have q4 := hS.2.2.1; obtain ⟨q0, q1⟩ := hS.2.2.2.1.two; go_simp; exact zO hK
    refine zS (fun w' hS hV K hK => ?_) ?_
    · have q2 := hS.1; have q3 := hS.2.1; have q4 := hS.2.2.1; obtain ⟨q0, q1⟩ := hS.2.2.2.1.two; go_simp; exact zO hK
    refine zS (fun w' hS hV K hK => ?_) ?_
    · have e14 := zQ hV 14; have e15 := zQ hV 15; have q2 := hS.1; have q3 := hS.2.1; have q4 := hS.2.2.1; obtain ⟨q0, q1⟩ := hS.2.2.2.1.two; go_simp; exact zO hK
    refine zS (fun w' hS hV K hK => ?_) ?_
    · have e16 := zQ hV 16; have q2 := hS.1; have q3 := hS.2.1; have q4 := hS.2.2.1; obtain ⟨q0, q1⟩ := hS.2.2.2.1.two; go_simp; exact zO hK
    refine zS (fun w' hS hV K hK => ?_) ?_
    · have e12 := zQ hV 12; have e17 := zQ hV 17; have q2 := hS.1; have q3 := hS.2.1; have q4 := hS.2.2.1; obtain ⟨q0, q1⟩ := hS.2.2.2.1.two; go_simp; exact zO hK
    refine zS (fun w' hS hV K hK => ?_) ?_
    · have e0 := zQ hV 0; have e18 := zQ hV 18; have q2 := hS.1; have q3 := hS.2.1; have q4 := hS.2.2.1; obtain ⟨q0, q1⟩ := hS.2.2.2.1.two; go_simp; exact zO hK
    refine zS (fun w' hS hV K hK => ?_) ?_
    · have q2 := hS.1; have q3 := hS.2.1; have q4 := hS.2.2.1; obtain ⟨q0, q1⟩ := hS.2.2.2.1.two; go_simp; exact zO hK
    refine zS (fun w' hS hV K hK => ?_) ?_
    · have e20 := zQ hV 20; have q2 := hS.1; have q3 := hS.2.1; have q4 := hS.2.2.1; obtain ⟨q0, q1⟩ := hS.2.2.2.1.two; go_simp; exact zO hK
    refine zS (fun w' hS hV K hK => ?_) ?_
    · have e19 := zQ hV 19; have e21 := zQ hV 21; have q2 := hS.1; have q3 := hS.2.1; have q4 := hS.2.2.1; obtain ⟨q0, q1⟩ := hS.2.2.2.1.two; go_simp; exact zO hK
    refine fun w' hS hV => ?_
    have e0 := zT hV 0
    have e1 := zT hV 1
    have e2 := zT hV 2
    have e3 := zT hV 3
    have e4 := zT hV 4
    have e5 := zT hV 5
    have e6 := zT hV 6
    have e7 := zT hV 7
    have e8 := zT hV 8
    have e9 := zT hV 9
    have e10 := zT hV 10
    have e11 := zT hV 11
    have e12 := zT hV 12
    have e13 := zT hV 13
    have e14 := zT hV 14
    have e15 := zT hV 15
    have e16 := zT hV 16
    have e17 := zT hV 17
    have e18 := zT hV 18
    have e19 := zT hV 19
    have e20 := zT hV 20
    have e21 := zT hV 21
    have e22 := zT hV 22
    simp only [e0, e1, e2, e3, e4, e5, e6, e7, e8, e9, e10, e11, e12, e13, e14, e15, e16, e17, e18, e19, e20, e21, e22]
    clear e0 e1 e2 e3 e4 e5 e6 e7 e8 e9 e10 e11 e12 e13 e14 e15 e16 e17 e18 e19 e20 e21 e22
    refine any_one (j := 23) (by kernel_rfl) (Eq.trans (by simp only [zA, zB, zC]; exact rfl) rfl) (fun K hK => ?_)
    go_simp
    refine hK.out _ _ (wpAny_done (by kernel_rfl) ?_ _)
    have k3 := hS.2.2.2.1
    have HB3 := Lib.hid (hB1.trans (hS.2.2.2.2.mono hB1.size))
    clear W1 W2 W3 T1 T2 hS
    go_wp2
    go_roundw
    case rel => exact ⟨j + 1, by omega, by go_num, by rw [HST.out], HB3.out, k3⟩
    case measure => simp [intOf]; omega
  · obtain rfl : j = n := by omega
    clear hst
    go_wp2
    go_ret
    exact ⟨ret_int (HEN.out trivial).symm, hB1⟩
end Go.Proofs.YtmkjdpnoloofjaaGreat
namespace Go.Proofs.YtmkjdpnoloofjaaGreat
theorem cg_add {p a b c d : Int} (h : a % p = b % p) (h' : c % p = d % p) : (a + c) % p = (b + d) % p := by rw [Int.add_emod, h, h', ← Int.add_emod]
theorem cg_mul {p a b c d : Int} (h : a % p = b % p) (h' : c % p = d % p) : a * c % p = b * d % p := by rw [Int.mul_emod, h, h', ← Int.mul_emod]
theorem cg_self (p a : Int) : a % p % p = a % p := Int.emod_emod_of_dvd _ (Int.dvd_refl p)
theorem sumTo_two {n : Nat} {f : Nat → Int} (a b : Nat) (ha : a < n) (hb : b < n) (hab : a ≠ b) (h : ∀ i, i < n → i ≠ a → i ≠ b → f i = 0) : sumTo n f = f a + f b := by
 have e : sumTo n f = sumTo n (fun i => (if i = a then f i else 0) + (if i = a then 0 else f i)) := sumTo_congr fun i _ => by split <;> omega
 rw [e, sumTo_add, sumTo_one (f := fun i => if i = a then f i else 0) a ha (fun i _ hi => if_neg hi), sumTo_one (f := fun i => if i = a then 0 else f i) b hb (fun i hi hib => by
  by_cases hia : i = a
  · exact if_pos hia
  · simp only [if_neg hia]; exact h i hi hia hib)]
 rw [if_pos rfl, if_neg (Ne.symm hab)]
theorem getD_app_left {α : Type} (d : α) {xs : List α} (ys : List α) {i : Nat} (h : i < xs.length) : (xs ++ ys).getD i d = xs.getD i d := by
 rw [getD_of_lt d h, getD_of_lt d (by rw [List.length_append]; omega), List.getElem_append_left h]
theorem getD_app_right {α : Type} (d : α) (xs ys : List α) (i : Nat) : (xs ++ ys).getD (xs.length + i) d = ys.getD i d := by
 by_cases h : i < ys.length
 · rw [getD_of_lt d h, getD_of_lt d (by rw [List.length_append]; omega), List.getElem_append_right (by omega)]
   congr 1; omega
 · rw [getD_of_ge d (show ys.length ≤ i by omega), getD_of_ge d (show (xs ++ ys).length ≤ xs.length + i by rw [List.length_append]; omega)]
/-- A sum of multiples of the rows. -/
def Sp (p : Int) (n : Nat) (m : List (List Int)) (v : Nat → Int) : Prop := ∃ c : Nat → Int, ∀ q, q < n → v q % p = (sumTo m.length fun i => c i * ent m i q) % p
theorem Sp.congr {p : Int} {n : Nat} {m : List (List Int)} {v u : Nat → Int} (h : Sp p n m v) (e : ∀ q, q < n → v q % p = u q % p) : Sp p n m u := by
 obtain ⟨c, hc⟩ := h
 exact ⟨c, fun q hq => (e q hq).symm.trans (hc q hq)⟩
theorem Sp.zero (p : Int) (n : Nat) (m : List (List Int)) : Sp p n m fun _ => 0 := ⟨fun _ => 0, fun q _ => by rw [sumTo_zero fun i _ => Int.zero_mul _]⟩
theorem Sp.add {p : Int} {n : Nat} {m : List (List Int)} {v u : Nat → Int} (h : Sp p n m v) (h' : Sp p n m u) : Sp p n m fun q => v q + u q := by
 obtain ⟨c, hc⟩ := h
 obtain ⟨d, hd⟩ := h'
 refine ⟨fun i => c i + d i, fun q hq => ?_⟩
 rw [sumTo_congr (g := fun i => c i * ent m i q + d i * ent m i q) fun i _ => Int.add_mul _ _ _, sumTo_add]
 exact cg_add (hc q hq) (hd q hq)
theorem Sp.mul {p : Int} {n : Nat} {m : List (List Int)} {v : Nat → Int} (h : Sp p n m v) (k : Int) : Sp p n m fun q => k * v q := by
 obtain ⟨c, hc⟩ := h
 refine ⟨fun i => k * c i, fun q hq => ?_⟩
 rw [sumTo_congr (g := fun i => k * (c i * ent m i q)) fun i _ => Int.mul_assoc _ _ _, sumTo_mul]
 exact cg_mul rfl (hc q hq)
theorem Sp.row {p : Int} {n : Nat} {m : List (List Int)} {i : Nat} (hi : i < m.length) : Sp p n m fun q => ent m i q := by
 refine ⟨fun j => if j = i then 1 else 0, fun q _ => ?_⟩
 rw [sumTo_one (f := fun j => (if j = i then 1 else 0) * ent m j q) i hi (fun j _ hj => by simp only [if_neg hj, Int.zero_mul])]
 simp
theorem Sp.mem {p : Int} {n : Nat} {m : List (List Int)} {x : List Int} (hx : x ∈ m) : Sp p n m fun q => x.getD q 0 := by
 obtain ⟨i, hi, rfl⟩ := List.getElem_of_mem hx
 refine (Sp.row hi).congr fun q _ => ?_
 unfold ent; rw [getD_of_lt [] hi]
theorem Sp.sum {p : Int} {n : Nat} {m : List (List Int)} (k : Nat) {f : Nat → Nat → Int} (h : ∀ i, i < k → Sp p n m (f i)) : Sp p n m fun q => sumTo k fun i => f i q := by
 induction k with
 | zero => exact Sp.zero p n m
 | succ k ih => exact (ih fun i hi => h i (by omega)).add (h k (by omega))
theorem Sp.nil {p : Int} {n : Nat} {v : Nat → Int} (h : Sp p n [] v) : ∀ q, q < n → v q % p = 0 := fun q hq => by
 obtain ⟨c, hc⟩ := h
 rw [hc q hq]; simp [sumTo]
/-- All rows of the first are made of those of the second. -/
def InSp (p : Int) (n : Nat) (m m' : List (List Int)) : Prop := ∀ i, i < m.length → Sp p n m' fun q => ent m i q
theorem InSp.sp {p : Int} {n : Nat} {m m' : List (List Int)} (h : InSp p n m m') {v : Nat → Int} (hv : Sp p n m v) : Sp p n m' v := by
 obtain ⟨c, hc⟩ := hv
 exact (Sp.sum m.length fun i hi => (h i hi).mul (c i)).congr fun q hq => (hc q hq).symm
theorem InSp.refl (p : Int) (n : Nat) (m : List (List Int)) : InSp p n m m := fun _ hi => Sp.row hi
theorem InSp.trans {p : Int} {n : Nat} {m m' m2 : List (List Int)} (h : InSp p n m m') (h' : InSp p n m' m2) : InSp p n m m2 := fun i hi => h'.sp (h i hi)
theorem InSp.of_mem {p : Int} {n : Nat} {m m' : List (List Int)} (h : ∀ x ∈ m, Sp p n m' fun q => x.getD q 0) : InSp p n m m' := fun i hi =>
 (h _ (List.getElem_mem hi)).congr fun q _ => by unfold ent; rw [getD_of_lt [] hi]
theorem InSp.of_sub {p : Int} {n : Nat} {m m' : List (List Int)} (h : ∀ x ∈ m, x ∈ m') : InSp p n m m' := InSp.of_mem fun x hx => Sp.mem (h x hx)
theorem InSp.append {p : Int} {n : Nat} {m1 m2 m' : List (List Int)} (h1 : InSp p n m1 m') (h2 : InSp p n m2 m') : InSp p n (m1 ++ m2) m' := InSp.of_mem fun x hx => by
 rcases List.mem_append.1 hx with h | h
 · exact h1.sp (Sp.mem h)
 · exact h2.sp (Sp.mem h)
theorem Sp.append {p : Int} {n : Nat} {m m' : List (List Int)} {v : Nat → Int} (h : Sp p n (m ++ m') v) : ∃ u u', Sp p n m u ∧ Sp p n m' u' ∧ ∀ q, q < n → v q % p = (u q + u' q) % p := by
 obtain ⟨c, hc⟩ := h
 refine ⟨fun q => sumTo m.length fun i => c i * ent m i q, fun q => sumTo m'.length fun i => c (m.length + i) * ent m' i q, ⟨c, fun _ _ => rfl⟩, ⟨fun i => c (m.length + i), fun _ _ => rfl⟩, fun q hq => ?_⟩
 rw [hc q hq, List.length_append]
 congr 1
 have e1 : ∀ i, i < m.length → ent (m ++ m') i q = ent m i q := fun i hi => by unfold ent; rw [getD_app_left [] _ hi]
 have e2 : ∀ k, sumTo (m.length + k) (fun i => c i * ent (m ++ m') i q) = sumTo m.length (fun i => c i * ent m i q) + sumTo k (fun i => c (m.length + i) * ent m' i q) := by
  intro k
  induction k with
  | zero => exact (sumTo_congr fun i hi => by rw [e1 i hi]).trans (by simp [sumTo])
  | succ k ih =>
   rw [← Nat.add_assoc, sumTo_succ, ih, sumTo_succ]
   have : ent (m ++ m') (m.length + k) q = ent m' k q := by unfold ent; rw [getD_app_right]
   rw [this]; omega
 exact e2 _
/-- Two numbers that have the same remainder and are remainders. -/
theorem cg_eq {p a b : Int} (ha : 0 ≤ a ∧ a < p) (hb : 0 ≤ b ∧ b < p) (h : a % p = b % p) : a = b := by
 rwa [Int.emod_eq_of_lt ha.1 ha.2, Int.emod_eq_of_lt hb.1 hb.2] at h
theorem scaledAt_in {p : Int} (hP : isP p = true) {n : Nat} {m : List (List Int)} (hT : Tab p n m) {k d : Nat} (hd : d < m.length) (hv : pivOf m k d < m.length) :
    InSp p n (scaledAt p m k d) m ∧ InSp p n m (scaledAt p m k d) := by
 have hp : 2 ≤ p := by have := isP_ge hP; omega
 have hlen := scaledAt_len p m k d
 have hE := fun r q hq => ent_scaled (p := p) (k := k) rfl hd hv hT r q hq
 obtain ⟨hb1, hb2⟩ := pivOf_bound m k d (by omega)
 have hx : ent m (pivOf m k d) k ≠ 0 := piv_at m k _ _ (by unfold pivOf at hv; omega)
 obtain ⟨x1, x2⟩ := hT.ent (by omega) (pivOf m k d) k
 obtain ⟨i1, i2, i3⟩ := inv_spec hP (show 0 < ent m (pivOf m k d) k by omega) x2
 have hinv : ent m (pivOf m k d) k * invF p (ent m (pivOf m k d) k) % p = 1 := (i3 _ (by omega) i2).2 rfl
 obtain ⟨v, hv'⟩ : ∃ v, v = pivOf m k d := ⟨_, rfl⟩
 rw [← hv'] at hE hx x1 x2 hinv hv hb1 hb2
 obtain ⟨y, hy⟩ : ∃ y, y = invF p (ent m v k) := ⟨_, rfl⟩
 rw [← hy] at hE hinv
 constructor
 · intro r hr
   rw [hlen] at hr
   by_cases h1 : r = d
   · refine ((Sp.row hv).mul y).congr fun q hq => ?_
     rw [hE r q hq, if_pos h1, cg_self, Int.mul_comm]
   · by_cases h2 : r = v
     · refine (Sp.row hd).congr fun q hq => ?_
       rw [hE r q hq, if_neg h1, if_pos h2]
     · refine (Sp.row hr).congr fun q hq => ?_
       rw [hE r q hq, if_neg h1, if_neg h2]
 · intro r hr
   by_cases h2 : r = v
   · refine ((Sp.row (show d < (scaledAt p m k d).length by omega)).mul (ent m v k)).congr fun q hq => ?_
     rw [hE d q hq, if_pos rfl, h2]
     have e1 : ent m v k * (ent m v q * y % p) % p = ent m v k * (ent m v q * y) % p := cg_mul rfl (cg_self _ _)
     have e2 : ent m v k * (ent m v q * y) = ent m v q * (ent m v k * y) := by rw [Int.mul_comm (ent m v q) y, ← Int.mul_assoc, Int.mul_comm]
     rw [e1, e2]
     have e3 : ent m v q * (ent m v k * y) % p = ent m v q * 1 % p := cg_mul rfl (by rw [hinv, Int.emod_eq_of_lt (by omega) (by omega)])
     rw [e3, Int.mul_one]
   · by_cases h1 : r = d
     · refine (Sp.row (show v < (scaledAt p m k d).length by omega)).congr fun q hq => ?_
       rw [hE v q hq, if_neg (fun e => h2 (h1.trans e.symm)), if_pos rfl, h1]
     · refine (Sp.row (show r < (scaledAt p m k d).length by omega)).congr fun q hq => ?_
       rw [hE r q hq, if_neg h1, if_neg h2]
theorem clearTo_in {p : Int} {n : Nat} {m : List (List Int)} (hT : Tab p n m) {k d : Nat} (hd : d < m.length) :
    InSp p n (clearTo p m d k m.length) m ∧ InSp p n m (clearTo p m d k m.length) := by
 have hlen := clearTo_len p m d k m.length
 have hE := fun r q hr hq => ent_cleared (p := p) hT d k r q hr hq
 constructor
 · intro r hr
   rw [hlen] at hr
   by_cases h1 : r = d
   · refine (Sp.row hd).congr fun q hq => ?_
     rw [hE r q hr hq, if_pos h1]
   · refine ((Sp.row hr).add ((Sp.row hd).mul (-(ent m r k)))).congr fun q hq => ?_
     rw [hE r q hr hq, if_neg h1, cg_self]
 · intro r hr
   by_cases h1 : r = d
   · refine (Sp.row (show d < (clearTo p m d k m.length).length by omega)).congr fun q hq => ?_
     rw [hE d q hd hq, if_pos rfl, h1]
   · refine ((Sp.row (show r < (clearTo p m d k m.length).length by omega)).add ((Sp.row (show d < (clearTo p m d k m.length).length by omega)).mul (ent m r k))).congr fun q hq => ?_
     rw [hE r q hr hq, if_neg h1, hE d q hd hq, if_pos rfl]
     refine (cg_add (cg_self _ _) rfl).trans ?_
     congr 1
     rw [Int.neg_mul]; omega
theorem stepB_in {p : Int} (hP : isP p = true) {n : Nat} {s : List (List Int) × Nat} {k : Nat} (hT : Tab p n s.1) (hd : s.2 ≤ s.1.length) : InSp p n (stepB p k s).1 s.1 ∧ InSp p n s.1 (stepB p k s).1 := by
 unfold stepB
 split
 · exact ⟨InSp.refl _ _ _, InSp.refl _ _ _⟩
 · rename_i hne
   have hb := pivOf_bound s.1 k s.2 hd
   have hp : 2 ≤ p := by have := isP_ge hP; omega
   obtain ⟨a1, a2⟩ := scaledAt_in (k := k) hP hT (show s.2 < s.1.length by omega) (by omega)
   obtain ⟨b1, b2⟩ := clearTo_in (k := k) (d := s.2) (scaledAt_tab (p := p) (k := k) (by omega) hT (show s.2 < s.1.length by omega) (by omega)) (by rw [scaledAt_len]; omega)
   rw [scaledAt_len] at b1 b2
   exact ⟨b1.trans a1, a2.trans b2⟩
theorem basisTo_in {p : Int} (hP : isP p = true) {n : Nat} (m : List (List Int)) (hT : Tab p n m) (k : Nat) (hk : k ≤ n) : InSp p n (basisTo p m k).1 m ∧ InSp p n m (basisTo p m k).1 := by
 have hp : 2 ≤ p := by have := isP_ge hP; omega
 induction k with
 | zero => exact ⟨InSp.refl _ _ _, InSp.refl _ _ _⟩
 | succ k ih =>
  obtain ⟨h1, h2⟩ := ih (by omega)
  obtain ⟨t1, t2, t3⟩ := basisTo_inv (p := p) (by omega) m hT k
  obtain ⟨g1, g2⟩ := stepB_in (k := k) hP (s := basisTo p m k) t1 (by omega)
  exact ⟨g1.trans h1, h2.trans g2⟩
/-- The reduced basis makes what the rows make. -/
theorem basisL_in {p : Int} (hP : isP p = true) {n : Nat} (m : List (List Int)) (hT : Tab p n m) : InSp p n (basisL p m) m ∧ InSp p n m (basisL p m) := by
 have hp : 2 ≤ p := by have := isP_ge hP; omega
 by_cases h0 : 0 < m.length
 · have hl := row0_len hT h0
   obtain ⟨a1, a2⟩ := basisTo_in hP m hT n (Nat.le_refl _)
   obtain ⟨c, hc⟩ := basisTo_ech hP m hT n (Nat.le_refl _)
   obtain ⟨h1, h2, h3⟩ := basisTo_inv (p := p) (by omega) m hT n
   have e : basisL p m = (basisTo p m n).1.take (basisTo p m n).2 := by unfold basisL; rw [hl]
   constructor
   · refine InSp.trans (InSp.of_sub fun x hx => ?_) a1
     rw [e] at hx
     exact List.mem_of_mem_take hx
   · refine a2.trans fun i hi => ?_
     by_cases hid : i < (basisTo p m n).2
     · refine (Sp.mem (x := (basisTo p m n).1[i]) ?_).congr fun q _ => by unfold ent; rw [getD_of_lt [] hi]
       rw [e]
       exact List.mem_take_iff_getElem.2 ⟨i, by omega, rfl⟩
     · exact (Sp.zero _ _ _).congr fun q hq => by rw [hc.rest i (by omega) hi q hq]
 · obtain rfl : m = [] := List.eq_nil_of_length_eq_zero (by omega)
   rw [basisL_nil]
   exact ⟨InSp.refl _ _ _, InSp.refl _ _ _⟩
/-- What a reduced basis makes is told by its numbers at the places of the firsts. -/
theorem Red.coef {p : Int} {n : Nat} {B : List (List Int)} (hR : Red n B) {v : Nat → Int} (hv : Sp p n B v) : ∀ q, q < n → v q % p = (sumTo B.length fun i => v (ld B i) * ent B i q) % p := by
 obtain ⟨c, hc⟩ := hv
 intro q hq
 rw [hc q hq]
 refine sumTo_mod p fun i hi => cg_mul ?_ rfl
 rw [hc _ (hR.lt i hi), sumTo_one (f := fun j => c j * ent B j (ld B i)) i hi (fun j hj hji => by rw [hR.zero i j hi hj hji, Int.mul_zero]), hR.one i hi, Int.mul_one]
theorem Red.lead_of {p : Int} {n : Nat} {B : List (List Int)} (hR : Red n B) {v : Nat → Int} (hv : Sp p n B v) {q0 : Nat} (hq : q0 < n) (h0 : v q0 % p ≠ 0) (hb : ∀ q, q < q0 → v q % p = 0) : ∃ i, i < B.length ∧ ld B i = q0 := by
 refine Classical.byContradiction fun hno => h0 ?_
 rw [hR.coef hv q0 hq]
 refine (sumTo_mod p (g := fun _ => 0) fun i hi => ?_).trans (by rw [sumTo_zero fun _ _ => rfl]; rfl)
 rcases Nat.lt_trichotomy (ld B i) q0 with h | h | h
 · rw [Int.mul_emod, hb _ h]; simp
 · exact absurd ⟨i, hi, h⟩ hno
 · rw [hR.before i q0 h, Int.mul_zero]
theorem Red.leads_le {p : Int} (hp : 2 ≤ p) {n : Nat} {B C : List (List Int)} (hB : Red n B) (hC : Red n C) (h1 : InSp p n B C) (h2 : InSp p n C B) : ∀ i, i < B.length → i < C.length ∧ ld C i = ld B i := by
 have one : ∀ (B C : List (List Int)), Red n B → Red n C → InSp p n B C → ∀ i, i < B.length → ∃ j, j < C.length ∧ ld C j = ld B i := fun B C hB hC h i hi =>
  hC.lead_of (h i hi) (hB.lt i hi) (by rw [hB.one i hi, Int.emod_eq_of_lt (by omega) (by omega)]; omega) (fun q hq => by rw [hB.before i q hq]; simp)
 intro i
 induction i using Nat.strongRecOn with
 | _ i ih =>
  intro hi
  obtain ⟨j, hj, e⟩ := one B C hB hC h1 i hi
  have hij : i ≤ j := by
   refine Nat.le_of_not_lt fun hlt => ?_
   have := (ih j hlt (by omega)).2
   have := hB.inj (i := j) (j := i) (by omega) hi (by omega)
   omega
  have hic : i < C.length := by omega
  refine ⟨hic, ?_⟩
  rcases Nat.lt_or_ge i j with hlt | hge
  · obtain ⟨k, hk, e2⟩ := one C B hC hB h2 i hic
    have m1 := hC.mono i j hlt hj
    rcases Nat.lt_trichotomy k i with h | h | h
    · have := (ih k h (by omega)).2
      have := hC.inj (i := k) (j := i) (by omega) hic (by omega)
      omega
    · subst h; omega
    · have := hB.mono i k h hk; omega
  · obtain rfl : i = j := by omega
    exact e
/-- There is only one reduced basis. -/
theorem Red.unique {p : Int} (hp : 2 ≤ p) {n : Nat} {B C : List (List Int)} (hB : Red n B) (hC : Red n C) (TB : Tab p n B) (TC : Tab p n C) (h1 : InSp p n B C) (h2 : InSp p n C B) : B = C := by
 have a := hB.leads_le hp hC h1 h2
 have b := hC.leads_le hp hB h2 h1
 have hl : B.length = C.length := by
  rcases Nat.lt_trichotomy B.length C.length with h | h | h
  · have := (b B.length h).1; omega
  · exact h
  · have := (a C.length h).1; omega
 refine list_ext_getD [] hl fun i hi => ?_
 have hic : i < C.length := by omega
 obtain ⟨r1, r2⟩ := TB.row hi
 obtain ⟨s1, s2⟩ := TC.row hic
 refine list_ext_getD 0 (by omega) fun q hq => ?_
 rw [r1] at hq
 refine cg_eq (p := p) (TB.ent (by omega) i q) (TC.ent (by omega) i q) ?_
 show ent B i q % p = ent C i q % p
 rw [hC.coef (h1 i hi) q hq]
 congr 1
 rw [sumTo_one (f := fun j => ent B i (ld C j) * ent C j q) i hic (fun j hj hji => by
  rw [← (b j hj).2, hB.zero j i (by omega) hi (Ne.symm hji), Int.zero_mul]), (a i hi).2, hB.one i hi, Int.one_mul]
theorem basisL_same {p : Int} (hP : isP p = true) {n : Nat} {m m' : List (List Int)} (hT : Tab p n m) (hT' : Tab p n m') (h : InSp p n m m') (h' : InSp p n m' m) : basisL p m = basisL p m' := by
 have hp : 2 ≤ p := by have := isP_ge hP; omega
 obtain ⟨a1, a2⟩ := basisL_in hP m hT
 obtain ⟨b1, b2⟩ := basisL_in hP m' hT'
 exact (basisL_red hP m hT).unique hp (basisL_red hP m' hT') (basisL_tab (by omega) m hT) (basisL_tab (by omega) m' hT') ((a1.trans h).trans b2) ((b1.trans h').trans a2)
/-- Orthogonal to all rows. -/
def Orth (p : Int) (n : Nat) (m : List (List Int)) (v : Nat → Int) : Prop := ∀ i, i < m.length → (sumTo n fun q => ent m i q * v q) % p = 0
theorem Orth.sp {p : Int} {n : Nat} {m : List (List Int)} {v : Nat → Int} (h : Orth p n m v) {u : Nat → Int} (hu : Sp p n m u) : (sumTo n fun q => u q * v q) % p = 0 := by
 obtain ⟨c, hc⟩ := hu
 have e1 : (sumTo n fun q => u q * v q) % p = (sumTo n fun q => sumTo m.length fun i => c i * (ent m i q * v q)) % p := by
  refine sumTo_mod p fun q hq => ?_
  rw [sumTo_congr (f := fun i => c i * (ent m i q * v q)) (g := fun i => v q * (c i * ent m i q)) (fun i _ => by rw [Int.mul_comm (v q), Int.mul_assoc]), sumTo_mul, Int.mul_comm (v q)]
  exact cg_mul (hc q hq) rfl
 rw [e1, sumTo_comm]
 refine (sumTo_mod p (g := fun _ => 0) fun i hi => ?_).trans (by rw [sumTo_zero fun _ _ => rfl]; rfl)
 rw [sumTo_mul, Int.mul_emod, h i hi]; simp
theorem Orth.of_in {p : Int} {n : Nat} {m m' : List (List Int)} {v : Nat → Int} (h : Orth p n m v) (hi : InSp p n m' m) : Orth p n m' v := fun i hl => h.sp (hi i hl)
theorem freeRow_at {p : Int} {B : List (List Int)} {n f k : Nat} (hk : k < n) : (freeRow p B n f).getD k 0 = if k = f then 1 else match ldIdx B k with | some i => (-(ent B i f)) % p | none => 0 := by
 unfold freeRow freePart
 rw [tab_getD hk]; simp <;> rfl
theorem freeRow_ld {p : Int} {B : List (List Int)} {n f i : Nat} (hR : Red n B) (hi : i < B.length) (hf : isLd B f = false) : (freeRow p B n f).getD (ld B i) 0 = (-(ent B i f)) % p := by
 rw [freeRow_at (hR.lt i hi), if_neg (fun e => by rw [isLd_iff.2 ⟨i, hi, e⟩] at hf; cases hf), ldIdx_some hR hi]
theorem freeRow_own {p : Int} {B : List (List Int)} {n f : Nat} (hf : f < n) : (freeRow p B n f).getD f 0 = 1 := by rw [freeRow_at hf, if_pos rfl]
theorem freeRow_no {p : Int} {B : List (List Int)} {n f k : Nat} (hk : k < n) (hkf : k ≠ f) (hl : isLd B k = false) : (freeRow p B n f).getD k 0 = 0 := by rw [freeRow_at hk, if_neg hkf, ldIdx_none hl]
theorem freeRow_orth {p : Int} {B : List (List Int)} {n f : Nat} (hR : Red n B) (hf : f < n) (hl : isLd B f = false) : Orth p n B fun q => (freeRow p B n f).getD q 0 := fun i hi => by
 have hne : ld B i ≠ f := fun e => by rw [isLd_iff.2 ⟨i, hi, e⟩] at hl; cases hl
 rw [sumTo_two (f := fun q => ent B i q * (freeRow p B n f).getD q 0) (ld B i) f (hR.lt i hi) hf hne (fun q hq h1 h2 => by
  cases hq' : isLd B q with
  | false => simp only [freeRow_no hq h2 hq', Int.mul_zero]
  | true =>
   obtain ⟨j, hj, rfl⟩ := isLd_iff.1 hq'
   simp only [hR.zero j i hj hi (fun e => h1 (by rw [e])), Int.zero_mul]), freeRow_ld hR hi hl, freeRow_own hf, hR.one i hi, Int.one_mul, Int.mul_one]
 refine (cg_add (cg_self _ _) rfl).trans ?_
 rw [Int.add_comm, ← Int.sub_eq_add_neg, Int.sub_self]; rfl
theorem freeTo_mem {p : Int} {B : List (List Int)} {n k : Nat} {x : List Int} : x ∈ freeTo p B n k ↔ ∃ f, f < k ∧ isLd B f = false ∧ x = freeRow p B n f := by
 unfold freeTo
 rw [List.mem_map]
 constructor
 · rintro ⟨f, hf, rfl⟩
   rw [List.mem_filter] at hf
   exact ⟨f, by simpa using hf.1, by simpa using hf.2, rfl⟩
 · rintro ⟨f, h1, h2, rfl⟩
   exact ⟨f, List.mem_filter.2 ⟨by simpa using h1, by simp [h2]⟩, rfl⟩
/-- What the free rows make is what is orthogonal to the reduced basis. -/
theorem freeTo_sp {p : Int} {B : List (List Int)} {n : Nat} (hR : Red n B) {v : Nat → Int} : Sp p n (freeTo p B n n) v ↔ Orth p n B v := by
 constructor
 · rintro ⟨c, hc⟩ i hi
   have h2 : Orth p n (freeTo p B n n) fun q => ent B i q := fun r hr => by
    have hx := List.getElem_mem hr
    obtain ⟨f, hf, hl, e⟩ := freeTo_mem.1 hx
    have := freeRow_orth (p := p) hR hf hl i hi
    rw [sumTo_congr (g := fun q => ent B i q * (freeRow p B n f).getD q 0) fun q _ => by unfold ent; rw [getD_of_lt [] hr, e, Int.mul_comm]]
    exact this
   have := h2.sp ⟨c, hc⟩
   rw [sumTo_congr (g := fun q => v q * ent B i q) fun q _ => Int.mul_comm _ _]
   exact this
 · intro h
   have hmem : Sp p n (freeTo p B n n) fun q => sumTo n fun f => if isLd B f then 0 else v f * (freeRow p B n f).getD q 0 := Sp.sum n fun f hf => by
    cases hl : isLd B f with
    | true => simp only [if_true]; exact Sp.zero _ _ _
    | false => simp only [Bool.false_eq_true, if_false]; exact (Sp.mem (freeTo_mem.2 ⟨f, hf, hl, rfl⟩)).mul (v f)
   refine hmem.congr fun q hq => ?_
   cases hl : isLd B q with
   | false =>
    rw [sumTo_one (f := fun f => if isLd B f then 0 else v f * (freeRow p B n f).getD q 0) q hq (fun f hf hfq => by
     cases hlf : isLd B f with
     | true => simp
     | false => simp only [Bool.false_eq_true, if_false, freeRow_no hq (Ne.symm hfq) hl, Int.mul_zero])]
    simp only [hl, Bool.false_eq_true, if_false, freeRow_own hq, Int.mul_one]
   | true =>
    obtain ⟨i, hi, rfl⟩ := isLd_iff.1 hl
    have ho := h i hi
    have e1 : (sumTo n fun f => ent B i f * v f) % p = (sumTo n fun f => (if f = ld B i then v f else 0) + (-1) * (if isLd B f then 0 else v f * (freeRow p B n f).getD (ld B i) 0)) % p := by
     refine sumTo_mod p fun f hf => ?_
     cases hlf : isLd B f with
     | true =>
      obtain ⟨j, hj, rfl⟩ := isLd_iff.1 hlf
      simp only [if_true, Int.mul_zero, Int.add_zero]
      by_cases hji : j = i
      · subst hji; rw [if_pos rfl, hR.one j hj, Int.one_mul]
      · rw [if_neg (fun e => hji (hR.inj hj hi e)), hR.zero j i hj hi (Ne.symm hji), Int.zero_mul]
     | false =>
      have hne : f ≠ ld B i := fun e => by rw [e, hl] at hlf; cases hlf
      simp only [Bool.false_eq_true, if_false, if_neg hne, Int.zero_add, freeRow_ld hR hi hlf]
      have : -1 * (v f * (-(ent B i f) % p)) % p = -1 * (v f * (-(ent B i f))) % p := cg_mul rfl (cg_mul rfl (cg_self _ _))
      rw [this]; congr 1
      rw [Int.mul_neg, Int.neg_mul, Int.one_mul, Int.neg_neg, Int.mul_comm]
    rw [e1, sumTo_add, sumTo_mul, sumTo_one (f := fun f => if f = ld B i then v f else 0) (ld B i) hq (fun f _ hf => if_neg hf), if_pos rfl] at ho
    obtain ⟨S, hS⟩ : ∃ S, S = sumTo n fun f => if isLd B f then 0 else v f * (freeRow p B n f).getD (ld B i) 0 := ⟨_, rfl⟩
    rw [← hS] at ho ⊢
    have := cg_add (ho.trans (Int.zero_emod p).symm) (show S % p = S % p from rfl)
    rw [Int.zero_add] at this
    rw [← this]; congr 1; omega
theorem kernL_sp {p : Int} (hP : isP p = true) {n : Nat} {m : List (List Int)} (hT : Tab p n m) {v : Nat → Int} : Sp p n (kernL p m n) v ↔ Orth p n m v := by
 have hp : 2 ≤ p := by have := isP_ge hP; omega
 obtain ⟨a1, a2⟩ := basisL_in hP m hT
 obtain ⟨b1, b2⟩ := basisL_in hP _ (freeTo_tab (p := p) hp (basisL p m) n n)
 constructor
 · exact fun h => ((freeTo_sp (basisL_red hP m hT)).1 (b1.sp h)).of_in a2
 · exact fun h => b2.sp ((freeTo_sp (basisL_red hP m hT)).2 (h.of_in a1))
theorem transL_row {m : List (List Int)} {n q : Nat} {p : Int} (hT : Tab p n m) (h0 : 0 < m.length) (hq : q < n) : (transL m).getD q [] = tab m.length fun i => ent m i q := by
 unfold transL
 rw [row0_len hT h0, tab_getD hq]
end Go.Proofs.YtmkjdpnoloofjaaGreat
namespace Go.Proofs.YtmkjdpnoloofjaaGreat
open Go.RowKit
theorem Blk.newAt {w : World} {t : TypeId} {cs : Array Value} {g : Nat} (hg : g = w.heap.size) : Blk (w.alloc (.cells cs t)) g t cs := hg ▸ Blk.new w t cs
theorem codeM_spec2 {P : Int} {sq : List Int} {ms : List (List Int)} (h : codeM P sq ms = 0) : isP P = true ∧ 2 < P ∧ P ≤ 13 ∧ 1 ≤ sq.length ∧ sq.length ≤ 6 ∧ NumsL P sq ∧ ∀ ys ∈ ms, ys.length = pw sq.length ∧ NumsL P ys := by
 obtain ⟨h1, h2⟩ := codeM_sp h
 obtain ⟨hp, hd1, hd2, hnum⟩ := isSp_dim h1
 have := isP_ge hp
 refine ⟨hp, by omega, by omega, hd1, hd2, nums_numsL hnum, fun ys hy => ?_⟩
 have hm := h2 ys hy
 unfold isMu at hm
 simp only [Bool.and_eq_true, beq_iff_eq] at hm
 exact ⟨by have := hm.1; omega, nums_numsL hm.2⟩
section
variable {P : Int} {n : Nat} {F G : List Int → Int}
end
theorem unitRow_getD {n k i : Nat} (hi : i < n) : (unitRow n k).getD i 0 = if k = i then 1 else 0 := by
 unfold unitRow
 rw [List.getD_eq_getElem?_getD, List.getElem?_set]
 by_cases h : k = i
 · rw [if_pos h, if_pos (by simp; omega), if_pos h]; rfl
 · rw [if_neg h, if_neg h, List.getElem?_replicate, if_pos hi]; rfl
end Go.Proofs.YtmkjdpnoloofjaaGreat
namespace Go.Proofs.YtmkjdpnoloofjaaGreat
theorem bit_eq (a i : Nat) : bit a i = (a.testBit i).toNat := by
 unfold bit
 rw [Nat.testBit_eq_decide_div_mod_eq]
 rcases Nat.mod_two_eq_zero_or_one (a / 2 ^ i) with h | h <;> rw [h] <;> rfl
theorem bit_le (a i : Nat) : bit a i < 2 := by unfold bit; exact Nat.mod_lt _ (by decide)
theorem bit_xor (a b i : Nat) : bit (a ^^^ b) i = (bit a i + bit b i) % 2 := by
 rw [bit_eq, bit_eq, bit_eq, Nat.testBit_xor]
 cases a.testBit i <;> cases b.testBit i <;> rfl
/-- The number of the first k bits. -/
def pcn (a : Nat) : Nat → Nat
 | 0 => 0
 | k + 1 => pcn a k + bit a k
theorem bit_half (a i : Nat) : bit (a / 2) i = bit a (i + 1) := by
 unfold bit
 rw [Nat.div_div_eq_div_mul, Nat.pow_succ, Nat.mul_comm]
theorem pcn_half (a : Nat) : ∀ k, pcn a (k + 1) = a % 2 + pcn (a / 2) k := by
 intro k
 induction k with
 | zero => simp [pcn, bit]
 | succ k ih =>
  rw [pcn, ih, pcn, bit_half, Nat.add_assoc]
theorem pc_pcn : ∀ (k a : Nat), a < 2 ^ k → pc a = pcn a k := by
 intro k
 induction k with
 | zero =>
  intro a h
  obtain rfl : a = 0 := by omega
  rw [pc_zero]; rfl
 | succ k ih =>
  intro a h
  rw [pc_rec, pcn_half, ih _ (by rw [Nat.pow_succ] at h; omega)]
theorem pcn_xor (a b : Nat) : ∀ k, pcn (a ^^^ b) k % 2 = (pcn a k + pcn b k) % 2 := by
 intro k
 induction k with
 | zero => rfl
 | succ k ih =>
  simp only [pcn]
  rw [bit_xor]
  omega
theorem pc_xor (a b : Nat) : pc (a ^^^ b) % 2 = (pc a + pc b) % 2 := by
 obtain ⟨k, ha, hb⟩ : ∃ k, a < 2 ^ k ∧ b < 2 ^ k :=
  ⟨a + b, Nat.lt_of_le_of_lt (Nat.le_add_right a b) Nat.lt_two_pow_self, Nat.lt_of_le_of_lt (Nat.le_add_left b a) Nat.lt_two_pow_self⟩
 rw [pc_pcn k _ (Nat.xor_lt_two_pow ha hb), pc_pcn k _ ha, pc_pcn k _ hb]
 exact pcn_xor a b k
theorem xor_div (a b k : Nat) : (a ^^^ b) / 2 ^ k = (a / 2 ^ k) ^^^ (b / 2 ^ k) := by
 rw [← Nat.shiftRight_eq_div_pow, ← Nat.shiftRight_eq_div_pow, ← Nat.shiftRight_eq_div_pow]
 exact Nat.shiftRight_xor_distrib
theorem swaps_left (a c b : Nat) : ∀ n, swaps (a ^^^ c) b n % 2 = (swaps a b n + swaps c b n) % 2 := by
 intro n
 induction n with
 | zero => rfl
 | succ n ih =>
  simp only [swaps]
  by_cases h : bit b n = 1
  · simp only [if_pos h]
    have := pc_xor (a / 2 ^ (n + 1)) (c / 2 ^ (n + 1))
    rw [xor_div]
    omega
  · simp only [if_neg h]; omega
theorem swaps_right (a b c : Nat) : ∀ n, swaps a (b ^^^ c) n % 2 = (swaps a b n + swaps a c n) % 2 := by
 intro n
 induction n with
 | zero => rfl
 | succ n ih =>
  simp only [swaps]
  rw [bit_xor]
  have h1 := bit_le b n
  have h2 := bit_le c n
  rcases (show bit b n = 0 ∨ bit b n = 1 by omega) with e1 | e1 <;> rcases (show bit c n = 0 ∨ bit c n = 1 by omega) with e2 | e2 <;> simp [e1, e2] <;> omega
/-- 1 or -1: the sign of a number of exchanges. -/
def sg (k : Nat) : Int := if k % 2 = 1 then -1 else 1
theorem sg_add (k l : Nat) : sg (k + l) = sg k * sg l := by
 unfold sg
 rcases Nat.mod_two_eq_zero_or_one k with h | h <;> rcases Nat.mod_two_eq_zero_or_one l with h' | h' <;> simp [Nat.add_mod, h, h']
theorem sg_congr {k l : Nat} (h : k % 2 = l % 2) : sg k = sg l := by unfold sg; rw [h]
/-- The product of the first i squares that both masks have, as an integer. -/
def comZ (sq : List Int) (a b : Nat) : Nat → Int
 | 0 => 1
 | i + 1 => comZ sq a b i * (if bit b i = 1 ∧ bit a i = 1 then sq.getD i 0 else 1)
theorem common_comZ (p : Int) (sq : List Int) (a b : Nat) : ∀ i, common p sq a b i % p = comZ sq a b i % p := by
 intro i
 induction i with
 | zero => rfl
 | succ i ih =>
  simp only [common, comZ]
  split
  · rw [Int.emod_emod_of_dvd _ (Int.dvd_refl p), Int.mul_emod, ih, ← Int.mul_emod]
  · rw [Int.mul_one, ih]
theorem comZ_symm (sq : List Int) (a b : Nat) : ∀ i, comZ sq a b i = comZ sq b a i := by
 intro i
 induction i with
 | zero => rfl
 | succ i ih => simp only [comZ]; rw [ih]; congr 1; simp only [And.comm]
theorem comZ_cocycle (sq : List Int) (a b c : Nat) : ∀ i, comZ sq a b i * comZ sq (a ^^^ b) c i = comZ sq b c i * comZ sq a (b ^^^ c) i := by
 intro i
 induction i with
 | zero => rfl
 | succ i ih =>
  simp only [comZ]
  rw [bit_xor, bit_xor]
  have key : ∀ X Y Z W s t u v : Int, X * Y = Z * W → s * t = u * v → (X * s) * (Y * t) = (Z * u) * (W * v) := fun X Y Z W s t u v h1 h2 => by
   rw [show (X * s) * (Y * t) = (X * Y) * (s * t) by rw [Int.mul_assoc, Int.mul_left_comm s, ← Int.mul_assoc], h1, h2]
   rw [Int.mul_assoc, Int.mul_left_comm W, ← Int.mul_assoc]
  refine key _ _ _ _ _ _ _ _ ih ?_
  have h1 := bit_le a i
  have h2 := bit_le b i
  have h3 := bit_le c i
  rcases (show bit a i = 0 ∨ bit a i = 1 by omega) with e1 | e1 <;> rcases (show bit b i = 0 ∨ bit b i = 1 by omega) with e2 | e2 <;> rcases (show bit c i = 0 ∨ bit c i = 1 by omega) with e3 | e3 <;> simp [e1, e2, e3]
/-- The number by which the product of two blades is that of their different bits, as an integer. -/
def facZ (sq : List Int) (a b : Nat) : Int := sg (swaps a b sq.length) * comZ sq a b sq.length
theorem fac_facZ (p : Int) (sq : List Int) (a b : Nat) : fac p sq a b % p = facZ sq a b % p := by
 unfold fac facZ sg
 split
 · rw [Int.emod_emod_of_dvd _ (Int.dvd_refl p), Int.neg_mul, Int.one_mul, ← Int.zero_sub, ← Int.zero_sub, Int.sub_emod, common_comZ, ← Int.sub_emod]
 · rw [Int.one_mul, common_comZ]
theorem facZ_cocycle (sq : List Int) (a b c : Nat) : facZ sq a b * facZ sq (a ^^^ b) c = facZ sq b c * facZ sq a (b ^^^ c) := by
 unfold facZ
 have hs : sg (swaps a b sq.length) * sg (swaps (a ^^^ b) c sq.length) = sg (swaps b c sq.length) * sg (swaps a (b ^^^ c) sq.length) := by
  rw [← sg_add, ← sg_add]
  apply sg_congr
  have h1 := swaps_left a b c sq.length
  have h2 := swaps_right a b c sq.length
  omega
 have hc := comZ_cocycle sq a b c sq.length
 have key : ∀ X Y Z W s t u v : Int, X * Y = Z * W → s * t = u * v → (X * s) * (Y * t) = (Z * u) * (W * v) := fun X Y Z W s t u v h1 h2 => by
  rw [show (X * s) * (Y * t) = (X * Y) * (s * t) by rw [Int.mul_assoc, Int.mul_left_comm s, ← Int.mul_assoc], h1, h2]
  rw [Int.mul_assoc, Int.mul_left_comm W, ← Int.mul_assoc]
 exact key _ _ _ _ _ _ _ _ hs hc
theorem xor_self_left (a b : Nat) : a ^^^ (a ^^^ b) = b := by rw [← Nat.xor_assoc, Nat.xor_self, Nat.zero_xor]
theorem xor_self_right (a b : Nat) : (b ^^^ a) ^^^ a = b := by rw [Nat.xor_assoc, Nat.xor_self, Nat.xor_zero]
theorem sumTo_xor {n : Nat} (f : Nat → Int) {c : Nat} (hc : c < pw n) : sumTo (pw n) f = sumTo (pw n) fun a => f (a ^^^ c) := by
 have h : ∀ b, b < pw n → f b = sumTo (pw n) fun a => if a ^^^ c = b then f b else 0 := fun b hb => by
  rw [sumTo_one (b ^^^ c) (xor_lt hb hc) fun i _ hne => if_neg fun e => hne (by rw [← e, xor_self_right]), if_pos (xor_self_right c b)]
 rw [sumTo_congr h, sumTo_comm]
 refine sumTo_congr fun a ha => ?_
 rw [sumTo_one (a ^^^ c) (xor_lt ha hc) fun i _ hne => if_neg fun e => hne e.symm, if_pos rfl]
theorem sumTo_mul_right (n : Nat) (f : Nat → Int) (c : Int) : sumTo n (fun i => f i * c) = sumTo n f * c := by
 rw [Int.mul_comm, ← sumTo_mul]
 exact sumTo_congr fun i _ => Int.mul_comm _ _
/-- The product of multivectors over the integers, at place m. -/
def mulZ (sq : List Int) (x y : Nat → Int) (m : Nat) : Int := sumTo (pw sq.length) fun a => x a * y (a ^^^ m) * facZ sq a (a ^^^ m)
theorem mulZ_assoc (sq : List Int) (x y z : Nat → Int) {m : Nat} (hm : m < pw sq.length) : mulZ sq (mulZ sq x y) z m = mulZ sq x (mulZ sq y z) m := by
 unfold mulZ
 rw [sumTo_congr (g := fun c => sumTo (pw sq.length) fun a => x a * y (a ^^^ c) * facZ sq a (a ^^^ c) * (z (c ^^^ m) * facZ sq c (c ^^^ m))) fun c _ => by
  rw [sumTo_mul_right, Int.mul_assoc], sumTo_comm]
 refine sumTo_congr fun a ha => ?_
 rw [sumTo_xor _ ha, ← sumTo_mul, ← sumTo_mul_right]
 refine sumTo_congr fun b hb => ?_
 have e1 : a ^^^ (b ^^^ a) = b := by rw [Nat.xor_comm b, xor_self_left]
 have e2 : (b ^^^ a) ^^^ m = b ^^^ (a ^^^ m) := Nat.xor_assoc _ _ _
 rw [e1, e2]
 have h := facZ_cocycle sq a b (b ^^^ (a ^^^ m))
 rw [xor_self_left, Nat.xor_comm a b] at h
 calc x a * y b * facZ sq a b * (z (b ^^^ (a ^^^ m)) * facZ sq (b ^^^ a) (b ^^^ (a ^^^ m)))
     = x a * y b * z (b ^^^ (a ^^^ m)) * (facZ sq a b * facZ sq (b ^^^ a) (b ^^^ (a ^^^ m))) := by
       rw [Int.mul_assoc (x a * y b), Int.mul_left_comm (facZ sq a b), ← Int.mul_assoc]
   _ = x a * y b * z (b ^^^ (a ^^^ m)) * (facZ sq b (b ^^^ (a ^^^ m)) * facZ sq a (a ^^^ m)) := by rw [h]
   _ = _ := by
       rw [← Int.mul_assoc, Int.mul_assoc (x a), Int.mul_assoc (x a)]
theorem mulZ_cg (p : Int) (sq : List Int) {x x' y y' : Nat → Int} (hx : ∀ a, a < pw sq.length → x a % p = x' a % p) (hy : ∀ a, a < pw sq.length → y a % p = y' a % p) {m : Nat} (hm : m < pw sq.length) : mulZ sq x y m % p = mulZ sq x' y' m % p := by
 unfold mulZ
 refine sumTo_mod p fun a ha => ?_
 have h1 := hx a ha
 have h2 := hy _ (xor_lt ha hm)
 rw [Int.mul_emod, Int.mul_emod (x a), h1, h2, ← Int.mul_emod (x' a), ← Int.mul_emod]
structure Cl (p : Int) (sq : List Int) where
 l : List Int
 len : l.length = pw sq.length
 nums : NumsL p l
 pos : 0 < p
section
variable {p : Int} {sq : List Int}
/-- The number at a place. -/
def Cl.co (x : Cl p sq) (m : Nat) : Int := x.l.getD m 0
theorem Cl.ext {x y : Cl p sq} (h : x.l = y.l) : x = y := by
 cases x; cases y; cases h; rfl
theorem Cl.co_small (x : Cl p sq) (m : Nat) : 0 ≤ x.co m ∧ x.co m < p := x.nums.getD x.pos m
theorem Cl.co_mod (x : Cl p sq) (m : Nat) : x.co m % p = x.co m := Int.emod_eq_of_lt (x.co_small m).1 (x.co_small m).2
theorem Cl.same {x y : Cl p sq} (h : ∀ m, m < pw sq.length → x.co m % p = y.co m % p) : x = y := by
 refine Cl.ext (list_ext_getD 0 (by rw [x.len, y.len]) fun m hm => ?_)
 have := h m (by rw [← x.len]; exact hm)
 rwa [x.co_mod, y.co_mod] at this
/-- The multivector with these numbers. -/
def Cl.of (hp : 0 < p) (f : Nat → Int) : Cl p sq := ⟨tab (pw sq.length) fun m => f m % p, tab_len _ _, NumsL.tab fun _ _ => ⟨Int.emod_nonneg _ (by omega), Int.emod_lt_of_pos _ hp⟩, hp⟩
theorem Cl.of_co (hp : 0 < p) (f : Nat → Int) {m : Nat} (hm : m < pw sq.length) : (Cl.of hp f : Cl p sq).co m = f m % p := tab_getD hm 0
theorem Cl.of_cg (hp : 0 < p) (f : Nat → Int) {m : Nat} (hm : m < pw sq.length) : (Cl.of hp f : Cl p sq).co m % p = f m % p := by rw [Cl.of_co hp f hm, Int.emod_emod_of_dvd _ (Int.dvd_refl p)]
instance : Mul (Cl p sq) := ⟨fun x y => Cl.of x.pos (mulZ sq x.co y.co)⟩
instance : Add (Cl p sq) := ⟨fun x y => Cl.of x.pos fun m => x.co m + y.co m⟩
instance : Neg (Cl p sq) := ⟨fun x => Cl.of x.pos fun m => -(x.co m)⟩
instance : HMul Int (Cl p sq) (Cl p sq) := ⟨fun k x => Cl.of x.pos fun m => k * x.co m⟩
theorem Cl.mul_co (x y : Cl p sq) {m : Nat} (hm : m < pw sq.length) : (x * y).co m % p = mulZ sq x.co y.co m % p := Cl.of_cg _ _ hm
theorem Cl.add_co (x y : Cl p sq) {m : Nat} (hm : m < pw sq.length) : (x + y).co m % p = (x.co m + y.co m) % p := Cl.of_cg _ _ hm
theorem Cl.sm_co (k : Int) (x : Cl p sq) {m : Nat} (hm : m < pw sq.length) : (k * x).co m % p = (k * x.co m) % p := Cl.of_cg _ _ hm
theorem Cl.mul_assoc (x y z : Cl p sq) : x * y * z = x * (y * z) := Cl.same fun m hm => by
 rw [Cl.mul_co _ _ hm, Cl.mul_co _ _ hm, mulZ_cg p sq (fun a ha => Cl.mul_co x y ha) (fun _ _ => rfl) hm, mulZ_assoc sq _ _ _ hm]
 exact mulZ_cg p sq (fun _ _ => rfl) (fun a ha => (Cl.mul_co y z ha).symm) hm
theorem Cl.add_mul (x y z : Cl p sq) : (x + y) * z = x * z + y * z := Cl.same fun m hm => by
 rw [Cl.mul_co _ _ hm, mulZ_cg p sq (fun a ha => Cl.add_co x y ha) (fun _ _ => rfl) hm, Cl.add_co _ _ hm, Int.add_emod, Cl.mul_co _ _ hm, Cl.mul_co _ _ hm, ← Int.add_emod]
 unfold mulZ
 rw [← sumTo_add]
 congr 1
 exact sumTo_congr fun a _ => by rw [Int.add_mul, Int.add_mul]
theorem Cl.mul_add (x y z : Cl p sq) : x * (y + z) = x * y + x * z := Cl.same fun m hm => by
 rw [Cl.mul_co _ _ hm, mulZ_cg p sq (fun _ _ => rfl) (fun a ha => Cl.add_co y z ha) hm, Cl.add_co _ _ hm, Int.add_emod, Cl.mul_co _ _ hm, Cl.mul_co _ _ hm, ← Int.add_emod]
 unfold mulZ
 rw [← sumTo_add]
 congr 1
 exact sumTo_congr fun a _ => by rw [Int.mul_add, Int.add_mul]
theorem Cl.sm_mul (k : Int) (x y : Cl p sq) : (k * x) * y = k * (x * y) := Cl.same fun m hm => by
 rw [Cl.mul_co _ _ hm, mulZ_cg p sq (fun a ha => Cl.sm_co k x ha) (fun _ _ => rfl) hm, Cl.sm_co _ _ hm, Int.mul_emod k, Cl.mul_co _ _ hm, ← Int.mul_emod]
 unfold mulZ
 rw [← sumTo_mul]
 congr 1
 exact sumTo_congr fun a _ => by rw [Int.mul_assoc, Int.mul_assoc, Int.mul_assoc]
theorem Cl.mul_sm (k : Int) (x y : Cl p sq) : x * (k * y) = k * (x * y) := Cl.same fun m hm => by
 rw [Cl.mul_co _ _ hm, mulZ_cg p sq (fun _ _ => rfl) (fun a ha => Cl.sm_co k y ha) hm, Cl.sm_co _ _ hm, Int.mul_emod k, Cl.mul_co _ _ hm, ← Int.mul_emod]
 unfold mulZ
 rw [← sumTo_mul]
 congr 1
 exact sumTo_congr fun a _ => by rw [Int.mul_left_comm, Int.mul_assoc, Int.mul_assoc]
theorem Cl.add_comm (x y : Cl p sq) : x + y = y + x := Cl.same fun m hm => by rw [Cl.add_co _ _ hm, Cl.add_co _ _ hm, Int.add_comm]
theorem Cl.add_assoc (x y z : Cl p sq) : x + y + z = x + (y + z) := Cl.same fun m hm => by
 rw [Cl.add_co _ _ hm, Cl.add_co _ _ hm, Int.add_emod, Cl.add_co _ _ hm, ← Int.add_emod, Int.add_emod (x.co m), Cl.add_co _ _ hm, ← Int.add_emod, Int.add_assoc]
theorem Cl.sm_sm (k j : Int) (x : Cl p sq) : k * (j * x) = (k * j) * x := Cl.same fun m hm => by
 rw [Cl.sm_co _ _ hm, Int.mul_emod, Cl.sm_co _ _ hm, ← Int.mul_emod, Cl.sm_co _ _ hm, Int.mul_assoc]
theorem Cl.sm_add (k : Int) (x y : Cl p sq) : k * (x + y) = k * x + k * y := Cl.same fun m hm => by
 rw [Cl.sm_co _ _ hm, Int.mul_emod, Cl.add_co _ _ hm, ← Int.mul_emod, Cl.add_co _ _ hm, Int.add_emod, Cl.sm_co _ _ hm, Cl.sm_co _ _ hm, ← Int.add_emod, Int.mul_add]
theorem Cl.add_sm (k j : Int) (x : Cl p sq) : (k + j) * x = k * x + j * x := Cl.same fun m hm => by
 rw [Cl.sm_co _ _ hm, Cl.add_co _ _ hm, Int.add_emod, Cl.sm_co _ _ hm, Cl.sm_co _ _ hm, ← Int.add_emod, Int.add_mul]
theorem Cl.sm_cg {k j : Int} (h : k % p = j % p) (x : Cl p sq) : k * x = j * x := Cl.same fun m hm => by
 rw [Cl.sm_co _ _ hm, Cl.sm_co _ _ hm, Int.mul_emod, h, ← Int.mul_emod]
theorem Cl.one_sm (x : Cl p sq) : (1 : Int) * x = x := Cl.same fun m hm => by rw [Cl.sm_co _ _ hm, Int.one_mul]
/-- The numbers of a list, and no more than there are places. -/
def Cl.zero (hp : 0 < p) : Cl p sq := Cl.of hp fun _ => 0
theorem Cl.zero_sm (x : Cl p sq) : (0 : Int) * x = Cl.zero x.pos := Cl.same fun m hm => by
 rw [Cl.sm_co _ _ hm]; unfold Cl.zero; rw [Cl.of_cg _ _ hm, Int.zero_mul]
theorem Cl.add_zero (x : Cl p sq) (hp : 0 < p) : x + Cl.zero hp = x := Cl.same fun m hm => by
 rw [Cl.add_co _ _ hm, Int.add_emod]; unfold Cl.zero; rw [Cl.of_cg _ _ hm, ← Int.add_emod, Int.add_zero]
/-- The multivector 1. -/
def Cl.one (hp : 0 < p) : Cl p sq := Cl.of hp fun m => if m = 0 then 1 else 0
theorem Cl.one_co (hp : 0 < p) {m : Nat} (hm : m < pw sq.length) : (Cl.one hp : Cl p sq).co m % p = (if m = 0 then 1 else 0) % p := Cl.of_cg _ _ hm
theorem swaps_zero_right (a : Nat) : ∀ n, swaps a 0 n = 0 := by
 intro n
 induction n with
 | zero => rfl
 | succ n ih => simp [swaps, ih, bit_zero]
theorem swaps_zero_left (b : Nat) : ∀ n, swaps 0 b n = 0 := by
 intro n
 induction n with
 | zero => rfl
 | succ n ih => simp [swaps, ih, pc_zero]
theorem comZ_zero_left (sq : List Int) (b : Nat) : ∀ n, comZ sq 0 b n = 1 := by
 intro n
 induction n with
 | zero => rfl
 | succ n ih => simp [comZ, ih, bit_zero]
theorem facZ_zero_left (sq : List Int) (b : Nat) : facZ sq 0 b = 1 := by unfold facZ; rw [swaps_zero_left, comZ_zero_left]; rfl
theorem facZ_zero_right (sq : List Int) (a : Nat) : facZ sq a 0 = 1 := by unfold facZ; rw [swaps_zero_right, comZ_symm, comZ_zero_left]; rfl
theorem mulZ_one_left (sq : List Int) (x : Nat → Int) (m : Nat) : mulZ sq (fun m => if m = 0 then 1 else 0) x m = x m := by
 unfold mulZ
 rw [sumTo_one 0 (pw_pos _) fun i _ h => by dsimp only; rw [if_neg h, Int.zero_mul, Int.zero_mul]]
 dsimp only
 rw [if_pos rfl, Nat.zero_xor, facZ_zero_left, Int.one_mul, Int.mul_one]
theorem mulZ_one_right (sq : List Int) (x : Nat → Int) {m : Nat} (hm : m < pw sq.length) : mulZ sq x (fun m => if m = 0 then 1 else 0) m = x m := by
 unfold mulZ
 rw [sumTo_one m hm fun i _ h => by dsimp only; rw [if_neg (fun e => h (by have := (xor_eq_iff i m 0).1 e; rw [this, Nat.xor_zero])), Int.mul_zero, Int.zero_mul]]
 dsimp only
 rw [Nat.xor_self, if_pos rfl, facZ_zero_right, Int.mul_one, Int.mul_one]
theorem Cl.one_mul (hp : 0 < p) (x : Cl p sq) : Cl.one hp * x = x := Cl.same fun m hm => by
 rw [Cl.mul_co _ _ hm, mulZ_cg p sq (fun a ha => Cl.one_co hp ha) (fun _ _ => rfl) hm, mulZ_one_left]
theorem Cl.mul_one (hp : 0 < p) (x : Cl p sq) : x * Cl.one hp = x := Cl.same fun m hm => by
 rw [Cl.mul_co _ _ hm, mulZ_cg p sq (fun _ _ => rfl) (fun a ha => Cl.one_co hp ha) hm, mulZ_one_right sq _ hm]
theorem mulL_co {n : Nat} (hn : sq.length = n) {xs ys : List Int} (hx : xs.length = pw n) (hy : ys.length = pw n) {m : Nat} (hm : m < pw n) : (mulL p sq xs ys).getD m 0 % p = mulZ sq (fun a => xs.getD a 0) (fun a => ys.getD a 0) m % p := by
 subst hn
 unfold mulL
 rw [prodL_getD p sq _ xs ys _ m hx hy hm, Int.emod_emod_of_dvd _ (Int.dvd_refl p)]
 unfold mulZ
 refine sumTo_mod p fun a _ => ?_
 unfold term
 rw [if_pos rfl, Int.mul_emod, fac_facZ, ← Int.mul_emod]
theorem Cl.mul_l (x y : Cl p sq) : (x * y).l = mulL p sq x.l y.l := by
 refine list_ext_getD 0 (by rw [(x * y).len, mulL_len, x.len]) fun m hm => ?_
 rw [(x * y).len] at hm
 have h1 := (x * y).co_mod m
 have h2 := Cl.mul_co x y hm
 have h3 := mulL_co (p := p) rfl x.len y.len hm
 have h4 := (mulL_nums x.pos sq x.l y.l).getD x.pos m
 rw [Int.emod_eq_of_lt h4.1 h4.2] at h3
 rw [h3]
 rw [h1] at h2
 exact h2
theorem Cl.one_l (hp : 2 ≤ p) : (Cl.one (by omega) : Cl p sq).l = bladeL sq.length 0 := by
 refine list_ext_getD 0 (by rw [Cl.len, bladeL_len]) fun m hm => ?_
 rw [Cl.len] at hm
 rw [bladeL_getD _ _ _ hm]
 show (Cl.one _ : Cl p sq).co m = _
 unfold Cl.one
 rw [Cl.of_co _ _ hm]
 by_cases h : m = 0
 · rw [if_pos h, if_pos h.symm, Int.emod_eq_of_lt (by omega) (by omega)]
 · rw [if_neg h, if_neg (fun e => h e.symm), Int.zero_emod]
end
def swn (a b : Nat) : Nat → Nat
 | 0 => 0
 | i + 1 => swn a b i + (if bit b i = 1 then pcn (a / 2 ^ (i + 1)) 6 else 0)
theorem swaps_swn {a b : Nat} (ha : a < 64) : ∀ n, swaps a b n = swn a b n := by
 intro n
 induction n with
 | zero => rfl
 | succ n ih =>
  simp only [swaps, swn]
  rw [ih, pc_pcn 6 _ (Nat.lt_of_le_of_lt (Nat.div_le_self _ _) (by simpa using ha))]
theorem bit_high {b n i : Nat} (hb : b < 2 ^ n) (h : n ≤ i) : bit b i = 0 := by
 unfold bit
 rw [Nat.div_eq_of_lt (Nat.lt_of_lt_of_le hb (Nat.pow_le_pow_right (by decide) h))]
theorem swaps_more {a b n : Nat} (hb : b < 2 ^ n) : ∀ k, swaps a b (n + k) = swaps a b n := by
 intro k
 induction k with
 | zero => rfl
 | succ k ih =>
  rw [← Nat.add_assoc]
  simp only [swaps]
  rw [ih, bit_high hb (by omega)]
  rfl
theorem swaps_six {a b n : Nat} (hn : n ≤ 6) (ha : a < pw n) (hb : b < pw n) : swaps a b n = swn a b 6 := by
 have h64 : a < 64 := Nat.lt_of_lt_of_le ha (pw_le (k := 6) hn)
 rw [← swaps_swn h64, show 6 = n + (6 - n) by omega, swaps_more hb]
def sgI (a : Nat) : Int := if oddT (pc a) then -1 else 1
theorem sgI_sg (a : Nat) : sgI a = sg (pc a) := by
 unfold sgI sg oddT
 simp only [beq_iff_eq]
section
variable {p : Int} {sq : List Int}
def Cl.vec (hp : 0 < p) (v : List Int) : Cl p sq := Cl.of hp fun b => sumTo sq.length fun i => if b = 2 ^ i then v.getD i 0 else 0
theorem Cl.vec_co (hp : 0 < p) (v : List Int) {m : Nat} (hm : m < pw sq.length) : (Cl.vec hp v : Cl p sq).co m % p = (sumTo sq.length fun i => if m = 2 ^ i then v.getD i 0 else 0) % p := Cl.of_cg _ _ hm
theorem bit_pow (i j : Nat) : bit (2 ^ i) j = if i = j then 1 else 0 := by
 rw [bit_eq, Nat.testBit_two_pow]
 by_cases h : i = j <;> simp [h]
theorem pc_pow (i : Nat) : pc (2 ^ i) = 1 := by
 rw [pc_pcn (i + 1) _ (Nat.pow_lt_pow_right (by decide) (by omega)), pcn, bit_pow, if_pos rfl]
 have : ∀ k, k ≤ i → pcn (2 ^ i) k = 0 := by
  intro k
  induction k with
  | zero => intro _; rfl
  | succ k ih => intro hk; rw [pcn, ih (by omega), bit_pow, if_neg (by omega)]
 rw [this i (Nat.le_refl _)]
theorem swaps_pow (a j : Nat) : ∀ k, swaps a (2 ^ j) k = if j < k then pc (a / 2 ^ (j + 1)) else 0 := by
 intro k
 induction k with
 | zero => rfl
 | succ k ih =>
  simp only [swaps]
  rw [ih, bit_pow]
  by_cases h1 : j = k
  · subst h1; simp
  · by_cases h2 : j < k
    · simp [h1, h2, show j < k + 1 by omega]
    · simp [h1, h2, show ¬ j < k + 1 by omega]
theorem comZ_pow (sq : List Int) (i j : Nat) : ∀ k, comZ sq (2 ^ i) (2 ^ j) k = if i = j ∧ i < k then sq.getD i 0 else 1 := by
 intro k
 induction k with
 | zero => simp [comZ]
 | succ k ih =>
  simp only [comZ]
  rw [ih, bit_pow, bit_pow]
  by_cases h : i = j
  · subst h
    by_cases h1 : i = k
    · subst h1; simp
    · by_cases h2 : i < k
      · simp [h1, h2, show i < k + 1 by omega]
      · simp [h1, h2, show ¬ i < k + 1 by omega]
  · simp only [h, false_and, if_false]
    rw [if_neg, Int.mul_one]
    rintro ⟨h1, h2⟩
    split at h1
    · split at h2
      · omega
      · cases h2
    · cases h1
theorem facZ_same (sq : List Int) {i : Nat} (hi : i < sq.length) : facZ sq (2 ^ i) (2 ^ i) = sq.getD i 0 := by
 unfold facZ
 rw [swaps_pow, if_pos hi, comZ_pow, if_pos ⟨rfl, hi⟩, Nat.div_eq_of_lt (Nat.pow_lt_pow_right (by decide) (by omega)), pc_zero]
 show 1 * _ = _
 rw [Int.one_mul]
theorem facZ_less (sq : List Int) {i j : Nat} (h : i < j) (hj : j < sq.length) : facZ sq (2 ^ i) (2 ^ j) = 1 ∧ facZ sq (2 ^ j) (2 ^ i) = -1 := by
 unfold facZ
 rw [swaps_pow, if_pos hj, comZ_pow, if_neg (by omega), swaps_pow, if_pos (by omega), comZ_pow, if_neg (by omega), Nat.div_eq_of_lt (Nat.pow_lt_pow_right (by decide) (by omega)), pc_zero]
 refine ⟨rfl, ?_⟩
 rw [Nat.pow_div (by omega) (by decide), pc_pow]
 rfl
theorem facZ_both (sq : List Int) {i j : Nat} (hi : i < sq.length) (hj : j < sq.length) : facZ sq (2 ^ i) (2 ^ j) + facZ sq (2 ^ j) (2 ^ i) = if i = j then 2 * sq.getD i 0 else 0 := by
 rcases Nat.lt_trichotomy i j with h | h | h
 · rw [(facZ_less sq h hj).1, (facZ_less sq h hj).2, if_neg (by omega)]; rfl
 · subst h; rw [facZ_same sq hi, if_pos rfl]; omega
 · rw [(facZ_less sq h hi).1, (facZ_less sq h hi).2, if_neg (by omega)]; rfl
/-- The product of two vectors, over the integers. -/
def bil (sq v u : List Int) : Int := sumTo sq.length fun i => v.getD i 0 * u.getD i 0 * sq.getD i 0
/-- The product of vectors, at a place. -/
theorem mulZ_vec (sq u v : List Int) {m : Nat} (hm : m < pw sq.length) :
    mulZ sq (fun b => sumTo sq.length fun i => if b = 2 ^ i then u.getD i 0 else 0) (fun b => sumTo sq.length fun i => if b = 2 ^ i then v.getD i 0 else 0) m
     = sumTo sq.length fun i => sumTo sq.length fun j => if 2 ^ i ^^^ 2 ^ j = m then u.getD i 0 * v.getD j 0 * facZ sq (2 ^ i) (2 ^ j) else 0 := by
 unfold mulZ
 rw [sumTo_congr (g := fun a => sumTo sq.length fun i => if a = 2 ^ i then sumTo sq.length fun j => if 2 ^ i ^^^ 2 ^ j = m then u.getD i 0 * v.getD j 0 * facZ sq (2 ^ i) (2 ^ j) else 0 else 0) fun a ha => ?_, sumTo_comm]
 · refine sumTo_congr fun i hi => ?_
   rw [sumTo_one (2 ^ i) (two_lt hi) fun a _ hne => if_neg hne, if_pos rfl]
 · rw [← sumTo_mul_right, ← sumTo_mul_right]
   refine sumTo_congr fun i _ => ?_
   by_cases h : a = 2 ^ i
   · rw [if_pos h, if_pos h, ← sumTo_mul, ← sumTo_mul_right]
     refine sumTo_congr fun j _ => ?_
     by_cases h2 : 2 ^ i ^^^ 2 ^ j = m
     · rw [if_pos h2, h, if_pos ((xor_eq_iff _ _ _).1 h2).symm, ← (xor_eq_iff _ _ _).1 h2]
     · rw [if_neg h2, h, if_neg (fun e => h2 ((xor_eq_iff _ _ _).2 e.symm)), Int.mul_zero, Int.zero_mul]
   · rw [if_neg h, if_neg h, Int.zero_mul, Int.zero_mul]
/-- Vectors: the sum of both products is twice the number of the product. -/
theorem Cl.vec_anti (hp : 0 < p) (u v : List Int) : (Cl.vec hp u : Cl p sq) * Cl.vec hp v + Cl.vec hp v * Cl.vec hp u = (2 * bil sq u v) * Cl.one hp := Cl.same fun m hm => by
 rw [Cl.add_co _ _ hm, Int.add_emod, Cl.mul_co _ _ hm, Cl.mul_co _ _ hm, mulZ_cg p sq (fun a ha => Cl.vec_co hp u ha) (fun a ha => Cl.vec_co hp v ha) hm,
  mulZ_cg p sq (fun a ha => Cl.vec_co hp v ha) (fun a ha => Cl.vec_co hp u ha) hm, ← Int.add_emod, mulZ_vec sq u v hm, mulZ_vec sq v u hm, Cl.sm_co _ _ hm, Int.mul_emod (2 * _), Cl.one_co hp hm, ← Int.mul_emod]
 congr 1
 rw [sumTo_comm sq.length sq.length (fun i j => if 2 ^ i ^^^ 2 ^ j = m then v.getD i 0 * u.getD j 0 * facZ sq (2 ^ i) (2 ^ j) else 0), ← sumTo_add]
 unfold bil
 rw [← sumTo_mul, ← sumTo_mul_right]
 refine sumTo_congr fun i hi => ?_
 rw [← sumTo_add]
 have key : ∀ j, j < sq.length → ((if 2 ^ i ^^^ 2 ^ j = m then u.getD i 0 * v.getD j 0 * facZ sq (2 ^ i) (2 ^ j) else 0) + if 2 ^ j ^^^ 2 ^ i = m then v.getD j 0 * u.getD i 0 * facZ sq (2 ^ j) (2 ^ i) else 0) = if 2 ^ i ^^^ 2 ^ j = m then u.getD i 0 * v.getD j 0 * (if i = j then 2 * sq.getD i 0 else 0) else 0 := fun j hj => by
  rw [Nat.xor_comm (2 ^ j)]
  by_cases h : 2 ^ i ^^^ 2 ^ j = m
  · rw [if_pos h, if_pos h, if_pos h, Int.mul_comm (v.getD j 0), ← Int.mul_add, facZ_both sq hi hj]
  · rw [if_neg h, if_neg h, if_neg h]; rfl
 rw [sumTo_congr key, sumTo_one i hi fun j _ hne => by
  split
  · rw [if_neg (fun e => hne e.symm), Int.mul_zero]
  · rfl]
 rw [if_pos rfl, Nat.xor_self]
 by_cases h : m = 0
 · rw [if_pos h, if_pos h.symm, Int.mul_one, Int.mul_left_comm]
 · rw [if_neg h, if_neg (fun e => h e.symm), Int.mul_zero]
end
theorem half_ok {p : Int} (hP : isP p = true) : (p + 1) / 2 * 2 % p = 1 % p := by
 simp only [isP, Bool.or_eq_true, beq_iff_eq] at hP
 rcases hP with (((rfl | rfl) | rfl) | rfl) | rfl <;> decide
theorem inv_mod {p a : Int} (hP : isP p = true) (h : a % p ≠ 0) : a * invF p (a % p) % p = 1 := by
 have h3 := (isP_ge hP).1
 have h1 := Int.emod_nonneg a (show p ≠ 0 by omega)
 have h2 := Int.emod_lt_of_pos a (show 0 < p by omega)
 have hs := inv_spec hP (show 0 < a % p by omega) h2
 have := (hs.2.2 (invF p (a % p)) (by omega) hs.2.1).2 rfl
 rw [Int.mul_emod, Int.emod_emod_of_dvd _ (Int.dvd_refl p)] at this
 rw [Int.mul_emod]
 exact this
section
variable {p : Int} {sq : List Int}
theorem Cl.two (x : Cl p sq) : x + x = (2 : Int) * x := by
 have := Cl.add_sm 1 1 x
 rw [Cl.one_sm] at this
 exact this.symm
theorem Cl.half {x y : Cl p sq} (hP : isP p = true) (h : (2 : Int) * x = (2 : Int) * y) : x = y := by
 have e : ∀ z : Cl p sq, ((p + 1) / 2 : Int) * ((2 : Int) * z) = z := fun z => by rw [Cl.sm_sm, Cl.sm_cg (half_ok hP), Cl.one_sm]
 rw [← e x, h, e y]
theorem Cl.add_back (x y : Cl p sq) (k : Int) : x + k * y + (-k) * y = x := by
 rw [Cl.add_assoc, ← Cl.add_sm, show k + -k = 0 by omega, Cl.zero_sm, Cl.add_zero]
theorem Cl.move {x y z : Cl p sq} {k : Int} (h : x + k * y = z) : x = z + (-k) * y := by rw [← h, Cl.add_back]
theorem Cl.vec_sq (hp : 0 < p) (hP : isP p = true) (v : List Int) : (Cl.vec hp v : Cl p sq) * Cl.vec hp v = bil sq v v * Cl.one hp := by
 refine Cl.half hP ?_
 rw [← Cl.two, Cl.vec_anti, Cl.sm_sm]
end
theorem pigeon {α : Type} [BEq α] [LawfulBEq α] (all : List α) (hn : all.Nodup) (L : α → α) (hin : ∀ x ∈ all, L x ∈ all) (hinj : ∀ x ∈ all, ∀ y ∈ all, L x = L y → x = y) {y : α} (hy : y ∈ all) : ∃ x ∈ all, L x = y := by
 by_cases h : ∃ x ∈ all, L x = y
 · exact h
 · exfalso
   have hsub : all.map L ⊆ all.erase y := fun z hz => by
    obtain ⟨x, hx, rfl⟩ := List.mem_map.1 hz
    exact (List.mem_erase_of_ne fun e => h ⟨x, hx, e⟩).2 (hin x hx)
   have hnd : (all.map L).Nodup := List.pairwise_map.2 (List.Pairwise.imp_of_mem (fun ha hb hne e => hne (hinj _ ha _ hb e)) hn)
   have h1 := hnd.length_le_of_subset hsub
   rw [List.length_map, List.length_erase_of_mem hy] at h1
   have := List.length_pos_of_mem hy
   omega
def allL (p : Nat) : Nat → List (List Int)
 | 0 => [[]]
 | n + 1 => (allL p n).flatMap fun t => (List.range p).map fun a : Nat => (a : Int) :: t
theorem allL_mem (p : Nat) : ∀ (n : Nat) (xs : List Int), xs ∈ allL p n ↔ xs.length = n ∧ NumsL (p : Int) xs := by
 intro n
 induction n with
 | zero =>
  intro xs
  simp only [allL, List.mem_singleton]
  constructor
  · rintro rfl; exact ⟨rfl, fun x hx => by cases hx⟩
  · rintro ⟨h, _⟩; exact List.eq_nil_of_length_eq_zero h
 | succ n ih =>
  intro xs
  simp only [allL, List.mem_flatMap, List.mem_map, List.mem_range]
  constructor
  · rintro ⟨t, ht, a, ha, rfl⟩
    obtain ⟨h1, h2⟩ := (ih t).1 ht
    refine ⟨by simp [h1], fun x hx => ?_⟩
    rcases List.mem_cons.1 hx with rfl | hx
    · omega
    · exact h2 x hx
  · rintro ⟨h1, h2⟩
    cases xs with
    | nil => simp at h1
    | cons x t =>
     obtain ⟨x1, x2⟩ := h2 x (List.mem_cons_self ..)
     refine ⟨t, (ih t).2 ⟨by simpa using h1, fun y hy => h2 y (List.mem_cons_of_mem _ hy)⟩, x.toNat, by omega, ?_⟩
     rw [Int.toNat_of_nonneg x1]
theorem allL_nodup (p : Nat) : ∀ n, (allL p n).Nodup := by
 intro n
 induction n with
 | zero => exact List.pairwise_singleton _ _
 | succ n ih =>
  unfold allL
  refine List.pairwise_flatMap.2 ⟨fun t _ => List.pairwise_map.2 (List.nodup_range.imp fun hne e => hne (by injection e with e1 _; omega)), ih.imp fun hne x hx y hy e => ?_⟩
  obtain ⟨a, _, rfl⟩ := List.mem_map.1 hx
  obtain ⟨b, _, rfl⟩ := List.mem_map.1 hy
  injection e with _ e
  exact hne e
section
variable {p : Int} {sq : List Int}
/-- An inverse on one side is one on the other. -/
theorem Cl.inv_two (hp : 0 < p) {x y : Cl p sq} (h : x * y = Cl.one hp) : y * x = Cl.one hp := by
 have hpp : ((p.toNat : Nat) : Int) = p := Int.toNat_of_nonneg (by omega)
 have hmem : ∀ z : Cl p sq, z.l ∈ allL p.toNat (pw sq.length) := fun z => (allL_mem _ _ _).2 ⟨z.len, by rw [hpp]; exact z.nums⟩
 have hof : ∀ l ∈ allL p.toNat (pw sq.length), ∃ z : Cl p sq, z.l = l := fun l hl => by
  obtain ⟨h1, h2⟩ := (allL_mem _ _ _).1 hl
  rw [hpp] at h2
  exact ⟨⟨l, h1, h2, hp⟩, rfl⟩
 obtain ⟨l, hl, he⟩ := pigeon (allL p.toNat (pw sq.length)) (allL_nodup _ _) (mulL p sq y.l) (fun l hl => by
     obtain ⟨z, rfl⟩ := hof l hl
     rw [← Cl.mul_l]; exact hmem _)
  (fun l hl l' hl' e => by
   obtain ⟨z, rfl⟩ := hof l hl
   obtain ⟨z', rfl⟩ := hof l' hl'
   rw [← Cl.mul_l, ← Cl.mul_l] at e
   have e1 := congrArg (fun u => x * u) (Cl.ext e)
   simp only [← Cl.mul_assoc, h, Cl.one_mul] at e1
   rw [e1]) (hmem (Cl.one hp))
 obtain ⟨z, rfl⟩ := hof l hl
 rw [← Cl.mul_l] at he
 have e1 : y * z = Cl.one hp := Cl.ext he
 have e2 : x = z := by
  have := congrArg (fun u => x * u) e1
  simp only [← Cl.mul_assoc, h, Cl.one_mul, Cl.mul_one] at this
  exact this.symm
 rw [e2]; exact e1
theorem mul_ne {p : Int} (hP : isP p = true) {a b : Int} (ha : a % p ≠ 0) (hb : b % p ≠ 0) : a * b % p ≠ 0 := fun h => by
 have h3 := (isP_ge hP).1
 rw [Int.mul_emod] at h
 rcases mul_zero_mod hP (emod_small a p (by omega)) (emod_small b p (by omega)) h with h | h
 · exact ha h
 · exact hb h
/-- A vector is a sum of multiples of unit vectors. -/
def Cl.sum (hp : 0 < p) : Nat → (Nat → Cl p sq) → Cl p sq
 | 0, _ => Cl.zero hp
 | n + 1, f => Cl.sum hp n f + f n
theorem Cl.zero_co (hp : 0 < p) {m : Nat} (hm : m < pw sq.length) : (Cl.zero hp : Cl p sq).co m % p = 0 := by
 unfold Cl.zero; rw [Cl.of_cg _ _ hm, Int.zero_emod]
theorem Cl.sum_co (hp : 0 < p) (f : Nat → Cl p sq) {m : Nat} (hm : m < pw sq.length) : ∀ n, (Cl.sum hp n f).co m % p = (sumTo n fun i => (f i).co m) % p := by
 intro n
 induction n with
 | zero => rw [show Cl.sum hp 0 f = Cl.zero hp from rfl, Cl.zero_co hp hm]; rfl
 | succ n ih =>
  rw [show Cl.sum hp (n + 1) f = Cl.sum hp n f + f n from rfl, Cl.add_co _ _ hm, Int.add_emod, ih, ← Int.add_emod, sumTo_succ]
theorem Cl.zero_mul (hp : 0 < p) (x : Cl p sq) : Cl.zero hp * x = Cl.zero hp := by
 have := Cl.zero_sm (x := (Cl.one hp : Cl p sq))
 rw [← this, Cl.sm_mul, Cl.one_mul, Cl.zero_sm, Cl.zero_sm]
theorem Cl.mul_zero (hp : 0 < p) (x : Cl p sq) : x * Cl.zero hp = Cl.zero hp := by
 have := Cl.zero_sm (x := (Cl.one hp : Cl p sq))
 rw [← this, Cl.mul_sm, Cl.mul_one, Cl.zero_sm, Cl.zero_sm]
theorem Cl.mul_sum (hp : 0 < p) (x y : Cl p sq) (f : Nat → Cl p sq) : ∀ n, x * Cl.sum hp n f * y = Cl.sum hp n fun i => x * f i * y := by
 intro n
 induction n with
 | zero => show x * Cl.zero hp * y = Cl.zero hp; rw [Cl.mul_zero, Cl.zero_mul]
 | succ n ih => show x * (Cl.sum hp n f + f n) * y = _; rw [Cl.mul_add, Cl.add_mul, ih]; rfl
end
end Go.Proofs.YtmkjdpnoloofjaaGreat
namespace Go.Proofs.YtmkjdpnoloofjaaGreat
open Go.RowKit
theorem l01Same_b {b : Bool} (A B : Option Addr) (n m c d : Nat) (xs ys : List Int) (w : World) (hn : n ≤ 1099511627776) (hm : m ≤ 1099511627776) (ha : Rd w A n (ints xs)) (hb : Rd w B m (ints ys)) (h : decide (xs = ys) = b) :
    Calls Tryz.prog 179 #[.slice A n c, .slice B m d] w fun e w' => e = .returned (.bool b) ∧ ∃ j, w' = w.drewN j := h ▸ l01Same_any A B n m c d xs ys w hn hm ha hb
theorem rootF_spec (p a : Int) : ∀ (k i : Nat) (r : Int), rootF p a k i = some r → (i : Int) ≤ r ∧ r < (i : Int) + k ∧ (r * r) % p = a := by
 intro k
 induction k with
 | zero => intro i r h; simp [rootF] at h
 | succ k ih =>
  intro i r h
  unfold rootF at h
  split at h
  · rename_i hh
    injection h with h
    subst h
    exact ⟨by omega, by omega, hh⟩
  · obtain ⟨h1, h2, h3⟩ := ih (i + 1) r h
    exact ⟨by omega, by omega, h3⟩
theorem root_some {p a r : Int} (w : World) (hp : 2 ≤ p) (hp2 : p ≤ 13) (h : rootF p a p.toNat 0 = some r) :
    Calls Tryz.prog 173 #[.int .i64 p, .int .i64 a] w fun e w' => e = .returned (.tuple #[.int .i64 r, .bool true]) ∧ w = w' := by
 have := root_any p a w hp hp2
 rw [h] at this
 exact this
theorem root_none {p a : Int} (w : World) (hp : 2 ≤ p) (hp2 : p ≤ 13) (h : rootF p a p.toNat 0 = none) :
    Calls Tryz.prog 173 #[.int .i64 p, .int .i64 a] w fun e w' => e = .returned (.tuple #[.int .i64 0, .bool false]) ∧ w = w' := by
 have := root_any p a w hp hp2
 rw [h] at this
 exact this
end Go.Proofs.YtmkjdpnoloofjaaGreat
namespace Go.Proofs.YtmkjdpnoloofjaaGreat
section
variable {P : Int} {sq xs ys : List Int}
end
theorem codeM_mk {P : Int} {sq : List Int} {ms : List (List Int)} (h1 : isSp P sq = true) (h : ∀ ys ∈ ms, ys.length = pw sq.length ∧ NumsL P ys) : codeM P sq ms = 0 := by
 unfold codeM
 rw [if_pos h1, if_neg]
 intro hh
 obtain ⟨ys, hy, e⟩ := List.any_eq_true.1 hh
 obtain ⟨h2, h3⟩ := h ys hy
 have h4 : isMu P sq ys = true := by
  unfold isMu nums
  rw [h2, Bool.and_eq_true]
  refine ⟨by simp, List.all_eq_true.2 fun x hx => ?_⟩
  have := h3 x hx
  simp [inR]
  omega
 rw [h4] at e
 simp at e
section
variable {p : Int} {sq : List Int}
theorem cg_wit {p a b : Int} : a % p = b % p ↔ ∃ k, a = b + p * k := by
 constructor
 · intro h
   have h1 := Int.emod_add_mul_ediv a p
   have h2 := Int.emod_add_mul_ediv b p
   exact ⟨a / p - b / p, by grind⟩
 · rintro ⟨k, rfl⟩
   rw [Int.add_mul_emod_self_left]
end
section
variable {p : Int} {sq : List Int}
instance : Std.Associative (α := Cl p sq) (· + ·) := ⟨Cl.add_assoc⟩
instance : Std.Commutative (α := Cl p sq) (· + ·) := ⟨Cl.add_comm⟩
theorem Cl.gone (X : Cl p sq) : (-1 : Int) * X + X = Cl.zero X.pos := by
 have h : X = (1 : Int) * X := (Cl.one_sm X).symm
 calc (-1 : Int) * X + X = (-1 : Int) * X + (1 : Int) * X := by rw [← h]
   _ = ((-1 + 1 : Int)) * X := (Cl.add_sm _ _ _).symm
   _ = (0 : Int) * X := rfl
   _ = _ := Cl.zero_sm X
theorem Cl.sum_ind (hp : 0 < p) (Pr : Cl p sq → Prop) (h0 : Pr (Cl.zero hp)) (ha : ∀ a b, Pr a → Pr b → Pr (a + b)) (f : Nat → Cl p sq) : ∀ n, (∀ i, i < n → Pr (f i)) → Pr (Cl.sum hp n f)
 | 0, _ => h0
 | n + 1, h => ha _ _ (Cl.sum_ind hp Pr h0 ha f n fun i hi => h i (by omega)) (h n (by omega))
end
section
variable {p : Int} {sq : List Int}
theorem bil_unit {a b : Nat} (_ha : a < sq.length) (hb : b < sq.length) : bil sq (unitRow sq.length a) (unitRow sq.length b) = if a = b then sq.getD b 0 else 0 := by
 unfold bil
 rw [sumTo_one b hb fun j hj hne => by rw [unitRow_getD (k := b) hj, if_neg fun e => hne e.symm, Int.mul_zero, Int.zero_mul], unitRow_getD hb, unitRow_getD hb, if_pos rfl]
 split <;> simp
end
section
variable {p : Int} {sq : List Int}
/-- The multivector with 1 at one place. -/
def Cl.at_ (hp : 0 < p) (m : Nat) : Cl p sq := Cl.of hp fun q => if q = m then 1 else 0
theorem Cl.at_l (hp : 0 < p) (h2 : 2 ≤ p) {m : Nat} (_hm : m < pw sq.length) : (Cl.at_ hp m : Cl p sq).l = unitRow (pw sq.length) m := by
 refine list_ext_getD 0 (by rw [Cl.len, unitRow_len]) fun q hq => ?_
 rw [Cl.len] at hq
 show (Cl.at_ hp m : Cl p sq).co q = _
 unfold Cl.at_
 rw [Cl.of_co hp _ hq, unitRow_getD hq]
 by_cases h : q = m
 · rw [if_pos h, if_pos h.symm, Int.emod_eq_of_lt (by omega) (by omega)]
 · rw [if_neg h, if_neg fun e => h e.symm, Int.zero_emod]
theorem Cl.at_sum (hp : 0 < p) (z : Cl p sq) : z = Cl.sum hp (pw sq.length) fun m => z.co m * Cl.at_ hp m := Cl.same fun q hq => by
 rw [Cl.sum_co hp _ hq]
 rw [sumTo_mod (g := fun m => if q = m then z.co m else 0) p fun m hm => ?_]
 · rw [sumTo_one q hq fun m _ hne => if_neg fun e => hne e.symm, if_pos rfl]
 · rw [Cl.sm_co _ _ hq, Int.mul_emod]
   unfold Cl.at_
   rw [Cl.of_cg _ _ hq, ← Int.mul_emod]
   by_cases h : q = m
   · rw [if_pos h, if_pos h, Int.mul_one]
   · rw [if_neg h, if_neg h, Int.mul_zero]
theorem Cl.zero_all (hp : 0 < p) : ∀ y ∈ (Cl.zero hp : Cl p sq).l, y = 0 := fun y hy => by
 obtain ⟨i, hi, rfl⟩ := List.getElem_of_mem hy
 rw [Cl.len] at hi
 have h := Cl.zero_co (sq := sq) hp hi
 rw [Cl.co_mod] at h
 unfold Cl.co at h
 rw [getD_of_lt 0 (by rw [Cl.len]; exact hi)] at h
 exact h
/-- A list and a vector of its span have as many in their basis as the list. -/
theorem span_len (hP : isP p = true) {n : Nat} {L : List (List Int)} {v : List Int} (hL : Tab p n L) (hv : v.length = n ∧ NumsL p v) (h : Sp p n L (fun q => v.getD q 0)) : (basisL p (L ++ [v])).length = (basisL p L).length := by
 rw [basisL_same hP (hL.snoc hv) hL (InSp.append (InSp.refl _ _ _) (InSp.of_mem fun x hx => by rw [List.mem_singleton.1 hx]; exact h)) (InSp.of_sub fun x hx => List.mem_append_left _ hx)]
end
/-- All squares 0. -/
abbrev zs (n : Nat) : List Int := List.replicate n 0
section
variable {p : Int} {n : Nat}
/-- A vector times a multivector, at a place. -/
theorem Cl.vec_mul_co (hp : 0 < p) {sq : List Int} (v : List Int) (y : Cl p sq) {m : Nat} (hm : m < pw sq.length) : (Cl.vec hp v * y : Cl p sq).co m % p = (sumTo sq.length fun i => v.getD i 0 * y.co (2 ^ i ^^^ m) * facZ sq (2 ^ i) (2 ^ i ^^^ m)) % p := by
 rw [Cl.mul_co _ _ hm, mulZ_cg p sq (fun a ha => Cl.vec_co hp v ha) (fun a ha => rfl) hm]
 unfold mulZ
 rw [sumTo_congr (g := fun a => sumTo sq.length fun i => if a = 2 ^ i then v.getD i 0 * y.co (2 ^ i ^^^ m) * facZ sq (2 ^ i) (2 ^ i ^^^ m) else 0) fun a ha => ?_, sumTo_comm]
 · congr 1
   refine sumTo_congr fun i hi => ?_
   rw [sumTo_one (2 ^ i) (two_lt hi) fun a _ hne => if_neg hne, if_pos rfl]
 · rw [← sumTo_mul_right, ← sumTo_mul_right]
   refine sumTo_congr fun i _ => ?_
   by_cases h : a = 2 ^ i
   · rw [if_pos h, if_pos h, h]
   · rw [if_neg h, if_neg h, Int.zero_mul, Int.zero_mul]
end
section
variable {p : Int} {n : Nat}
theorem vec_sg : ∀ b : Nat, b < 64 → ∀ i : Nat, i < 6 → (swn b (2 ^ i) 6 + pcn b 6 + swn (2 ^ i) b 6) % 2 = (if b.testBit i then 1 else 0) := by decide +kernel
theorem facZ_vec {sq : List Int} (hn : sq.length ≤ 6) {b i : Nat} (hb : b < pw sq.length) (hi : i < sq.length) : sgI b * facZ sq b (2 ^ i) = (if b.testBit i then -1 else 1) * facZ sq (2 ^ i) b := by
 have h64 : ∀ {x}, x < pw sq.length → x < 64 := fun h => Nat.lt_of_lt_of_le h (pw_le (k := 6) hn)
 unfold facZ
 rw [comZ_symm sq b (2 ^ i), ← Int.mul_assoc, ← Int.mul_assoc]
 congr 1
 have e : (if b.testBit i then (-1 : Int) else 1) = sg (if b.testBit i then 1 else 0) := by cases b.testBit i <;> rfl
 rw [e, sgI_sg, ← sg_add, ← sg_add]
 apply sg_congr
 rw [swaps_six hn hb (two_lt hi), swaps_six hn (two_lt hi) hb, pc_pcn 6 b (h64 hb)]
 have h := vec_sg b (h64 hb) i (by omega)
 obtain ⟨t, ht⟩ : ∃ t : Nat, t = if b.testBit i then 1 else 0 := ⟨_, rfl⟩
 rw [← ht] at h ⊢
 omega
end
section
variable {p : Int} {sq : List Int}
theorem Cl.mul_vec_co (hp : 0 < p) (v : List Int) (y : Cl p sq) {m : Nat} (hm : m < pw sq.length) : (y * Cl.vec hp v : Cl p sq).co m % p = (sumTo sq.length fun i => v.getD i 0 * y.co (2 ^ i ^^^ m) * facZ sq (2 ^ i ^^^ m) (2 ^ i)) % p := by
 rw [Cl.mul_co _ _ hm, mulZ_cg p sq (fun a ha => rfl) (fun a ha => Cl.vec_co hp v ha) hm]
 unfold mulZ
 rw [sumTo_xor _ hm, sumTo_congr (g := fun a => sumTo sq.length fun i => if a = 2 ^ i then v.getD i 0 * y.co (2 ^ i ^^^ m) * facZ sq (2 ^ i ^^^ m) (2 ^ i) else 0) fun a ha => ?_, sumTo_comm]
 · congr 1
   refine sumTo_congr fun i hi => ?_
   rw [sumTo_one (2 ^ i) (two_lt hi) fun a _ hne => if_neg hne, if_pos rfl]
 · rw [xor_self_right, Int.mul_comm (y.co _), ← sumTo_mul_right, ← sumTo_mul_right]
   refine sumTo_congr fun i _ => ?_
   by_cases h : a = 2 ^ i
   · rw [if_pos h, if_pos h, h]
   · rw [if_neg h, if_neg h, Int.zero_mul, Int.zero_mul]
end
/-- Rows none of which is a sum of multiples of others. -/
def Ind (p : Int) (n : Nat) (L : List (List Int)) : Prop := ∀ c : Nat → Int, (∀ q, q < n → (sumTo L.length fun i => c i * ent L i q) % p = 0) → ∀ i, i < L.length → c i % p = 0
section
variable {p : Int} {n : Nat}
theorem Red.ind {B : List (List Int)} (hR : Red n B) : Ind p n B := fun c hc i hi => by
 have h := hc _ (hR.lt i hi)
 rwa [sumTo_one (f := fun j => c j * ent B j (ld B i)) i hi (fun j hj hne => by rw [hR.zero i j hi hj hne, Int.mul_zero]), hR.one i hi, Int.mul_one] at h
/-- Leads that fill the first places. -/
theorem Red.fills {B : List (List Int)} (hR : Red n B) {N : Nat} (h : ∀ f, f < N → isLd B f = true) : N ≤ B.length := by
 have key : ∀ f, f < N → ∃ i, i < B.length ∧ ld B i = f ∧ f ≤ i := by
  intro f
  induction f with
  | zero => intro h0; obtain ⟨i, hi, e⟩ := isLd_iff.1 (h 0 h0); exact ⟨i, hi, e, Nat.zero_le _⟩
  | succ f ih =>
   intro hf
   obtain ⟨i, hi, e, hle⟩ := ih (by omega)
   obtain ⟨j, hj, e2⟩ := isLd_iff.1 (h (f + 1) hf)
   refine ⟨j, hj, e2, ?_⟩
   rcases Nat.lt_trichotomy i j with hl | hl | hl
   · omega
   · subst hl; omega
   · have := hR.mono j i hl hi; omega
 rcases Nat.eq_zero_or_pos N with rfl | hN
 · exact Nat.zero_le _
 · obtain ⟨i, hi, -, hle⟩ := key (N - 1) (by omega)
   omega
/-- Independent vectors that others make are no more than these. -/
theorem Ind.le (hP : isP p = true) {L M : List (List Int)} (hI : Ind p n L) (hS : InSp p n L M) : L.length ≤ M.length := by
 have hp : 2 ≤ p := by have := isP_ge hP; omega
 refine Classical.byContradiction fun hlt => ?_
 have hch : ∀ i, ∃ a : Nat → Int, i < L.length → ∀ q, q < n → ent L i q % p = (sumTo M.length fun j => a j * ent M j q) % p := fun i => by
  by_cases hi : i < L.length
  · obtain ⟨a, ha⟩ := hS i hi; exact ⟨a, fun _ => ha⟩
  · exact ⟨fun _ => 0, fun h => absurd h hi⟩
 obtain ⟨a, ha⟩ := Classical.axiomOfChoice hch
 obtain ⟨A, hA⟩ : ∃ A : List (List Int), A = tab M.length fun j => tab L.length fun i => a i j % p := ⟨_, rfl⟩
 have hAl : A.length = M.length := by rw [hA, tab_len]
 have hAT : Tab p L.length A := by
  rw [hA]
  exact Tab.tab fun j _ => ⟨tab_len _ _, NumsL.tab fun i _ => ⟨Int.emod_nonneg _ (by omega), Int.emod_lt_of_pos _ (by omega)⟩⟩
 have hAe : ∀ j i, j < M.length → i < L.length → ent A j i = a i j % p := fun j i hj hi => by
  unfold ent; rw [hA, tab_getD hj, tab_getD hi]
 have hR := basisL_red hP A hAT
 have hRl := (basisL_len (p := p) (by omega) A hAT).2
 have hf : ∃ f, f < L.length ∧ isLd (basisL p A) f = false := Classical.byContradiction fun hno => by
  have := hR.fills (N := L.length) fun f hf => by
   cases e : isLd (basisL p A) f
   · exact absurd ⟨f, hf, e⟩ hno
   · rfl
  omega
 obtain ⟨f, hf, hfl⟩ := hf
 have ho := (freeRow_orth (p := p) hR hf hfl).of_in (basisL_in hP A hAT).2
 obtain ⟨c, hc⟩ : ∃ c : Nat → Int, c = fun q => (freeRow p (basisL p A) L.length f).getD q 0 := ⟨_, rfl⟩
 have h0 := hI c (fun q hq => by
  have e1 : (sumTo L.length fun i => c i * ent L i q) % p = (sumTo L.length fun i => c i * sumTo M.length fun j => a i j * ent M j q) % p := sumTo_mod p fun i hi => cg_mul rfl (ha i hi q hq)
  rw [e1, sumTo_congr (g := fun i => sumTo M.length fun j => c i * (a i j * ent M j q)) fun i _ => (sumTo_mul _ _ _).symm, sumTo_comm]
  refine (sumTo_mod p (g := fun _ => 0) fun j hj => ?_).trans (by rw [sumTo_zero fun _ _ => rfl]; rfl)
  have h1 := ho j (by omega)
  have e2 : (sumTo L.length fun i => c i * (a i j * ent M j q)) = ent M j q * sumTo L.length fun i => a i j * c i := by
   rw [← sumTo_mul]; exact sumTo_congr fun i _ => by rw [← Int.mul_assoc, Int.mul_comm (ent M j q), Int.mul_comm (c i)]
  rw [e2]
  have e3 : (sumTo L.length fun i => a i j * c i) % p = (sumTo L.length fun q => ent A j q * (freeRow p (basisL p A) L.length f).getD q 0) % p := sumTo_mod p fun i hi => by
   rw [hAe j i hj hi, hc]; exact cg_mul (cg_self _ _).symm rfl
  exact (cg_mul rfl (e3.trans h1)).trans (by rw [Int.mul_zero])) f hf
 rw [hc] at h0
 simp only [freeRow_own (p := p) (B := basisL p A) hf] at h0
 rw [Int.emod_eq_of_lt (by omega) (by omega)] at h0
 exact absurd h0 (by decide)
theorem Ind.same (hP : isP p = true) {L M : List (List Int)} (hL : Ind p n L) (hM : Ind p n M) (h1 : InSp p n L M) (h2 : InSp p n M L) : L.length = M.length :=
 Nat.le_antisymm (hL.le hP h1) (hM.le hP h2)
/-- The reduced basis of independent vectors has as many. -/
theorem Ind.basis (hP : isP p = true) {L : List (List Int)} (hT : Tab p n L) (hL : Ind p n L) : (basisL p L).length = L.length :=
 (basisL_red hP L hT).ind.same hP hL (basisL_in hP L hT).1 (basisL_in hP L hT).2
theorem freeTo_count {B : List (List Int)} (hR : Red n B) : ∀ k, ∃ t, t ≤ B.length ∧ (∀ i, i < B.length → (ld B i < k ↔ i < t)) ∧ (freeTo p B n k).length + t = k := by
 intro k
 induction k with
 | zero => exact ⟨0, Nat.zero_le _, fun i _ => by simp, rfl⟩
 | succ k ih =>
  obtain ⟨t, h1, h2, h3⟩ := ih
  cases e : isLd B k with
  | true =>
   obtain ⟨i, hi, hk⟩ := isLd_iff.1 e
   have hit : i = t := by
    have a1 : ¬ i < t := fun h => by have := (h2 i hi).2 h; omega
    have a2 : ¬ t < i := fun h => by
     have b1 := hR.mono t i h hi
     have b2 := (h2 t (by omega)).1 (by omega)
     omega
    omega
   refine ⟨t + 1, by omega, fun j hj => ⟨fun h => ?_, fun h => ?_⟩, by rw [freeTo_skip e]; omega⟩
   · refine Classical.byContradiction fun hc => ?_
     have := hR.mono i j (by omega) hj
     omega
   · rcases Nat.lt_or_ge j t with h4 | h4
     · have := (h2 j hj).2 h4; omega
     · obtain rfl : j = i := by omega
       omega
  | false =>
   refine ⟨t, h1, fun j hj => ?_, by rw [freeTo_take e, List.length_append]; simp; omega⟩
   have hne : ld B j ≠ k := fun h => by rw [isLd_iff.2 ⟨j, hj, h⟩] at e; cases e
   rw [← h2 j hj]; omega
theorem freeTo_length {B : List (List Int)} (hR : Red n B) : (freeTo p B n n).length + B.length = n := by
 obtain ⟨t, h1, h2, h3⟩ := freeTo_count (p := p) hR n
 have : t = B.length := by
  refine Nat.le_antisymm h1 (Nat.le_of_not_lt fun h => ?_)
  have := (h2 t h).1 (hR.lt t h)
  omega
 omega
theorem freeTo_row {B : List (List Int)} {r : Nat} (hr : r < (freeTo p B n n).length) : ∃ f, f < n ∧ isLd B f = false ∧ (freeTo p B n n).getD r [] = freeRow p B n f := by
 obtain ⟨f, h1, h2, h3⟩ := freeTo_mem.1 (getD_mem [] hr)
 exact ⟨f, h1, h2, h3⟩
theorem freeTo_inj {B : List (List Int)} : ∀ k, ∀ r s, r < s → s < (freeTo p B n k).length → k ≤ n → ∃ f, f < k ∧ isLd B f = false ∧ (freeTo p B n k).getD s [] = freeRow p B n f ∧ ∃ g, g < f ∧ isLd B g = false ∧ (freeTo p B n k).getD r [] = freeRow p B n g := by
 intro k
 induction k with
 | zero => intro r s _ hs; rw [freeTo_zero] at hs; simp at hs
 | succ k ih =>
  intro r s hrs hs hk
  cases e : isLd B k with
  | true =>
   rw [freeTo_skip e] at hs ⊢
   obtain ⟨f, h1, h2⟩ := ih r s hrs hs (by omega)
   exact ⟨f, by omega, h2⟩
  | false =>
   rw [freeTo_take e] at hs ⊢
   rw [List.length_append] at hs
   simp only [List.length_cons, List.length_nil] at hs
   rcases Nat.lt_or_ge s (freeTo p B n k).length with h4 | h4
   · rw [getD_app_left [] _ h4, getD_app_left [] _ (show r < _ by omega)]
     obtain ⟨f, h1, h2⟩ := ih r s hrs h4 (by omega)
     exact ⟨f, by omega, h2⟩
   · obtain ⟨z, hz⟩ : ∃ z, z = (freeTo p B n k).length := ⟨_, rfl⟩
     obtain rfl : s = z := by omega
     have h5 : r < (freeTo p B n k).length := by omega
     obtain ⟨g, h6, h7, h8⟩ := freeTo_mem.1 (getD_mem [] h5)
     refine ⟨k, by omega, e, ?_, g, h6, h7, ?_⟩
     · have := getD_app_right [] (freeTo p B n k) [freeRow p B n k] 0
       rw [Nat.add_zero, ← hz] at this
       rw [this]; rfl
     · rw [getD_app_left [] _ h5, h8]
theorem freeTo_ind {B : List (List Int)} (_hR : Red n B) : Ind p n (freeTo p B n n) := fun c hc i hi => by
 obtain ⟨f, h1, h2, h3⟩ := freeTo_row hi
 have h := hc f h1
 rwa [sumTo_one (f := fun j => c j * ent (freeTo p B n n) j f) i hi (fun j hj hne => by
  have : ent (freeTo p B n n) j f = 0 := by
   unfold ent
   rcases Nat.lt_or_ge j i with hl | hl
   · obtain ⟨f', a1, a2, a3, g, a4, a5, a6⟩ := freeTo_inj (p := p) (B := B) n j i hl hi (Nat.le_refl _)
     have : f' = f := by
      refine Classical.byContradiction fun hn => ?_
      have b1 := freeRow_own (p := p) (B := B) a1
      have b2 := freeRow_no (p := p) (B := B) (f := f) a1 hn a2
      rw [← a3, h3, b2] at b1
      exact absurd b1 (by decide)
     rw [a6, freeRow_no h1 (by omega) h2]
   · obtain ⟨f', a1, a2, a3, g, a4, a5, a6⟩ := freeTo_inj (p := p) (B := B) n i j (by omega) hj (Nat.le_refl _)
     have : g = f := by
      refine Classical.byContradiction fun hn => ?_
      have b1 := freeRow_own (p := p) (B := B) (n := n) (f := g) (by omega)
      have b2 := freeRow_no (p := p) (B := B) (n := n) (f := f) (k := g) (by omega) hn a5
      rw [← a6, h3, b2] at b1
      exact absurd b1 (by decide)
     rw [a3, freeRow_no h1 (by omega) h2]
  rw [this, Int.mul_zero]), show ent (freeTo p B n n) i f = 1 by unfold ent; rw [h3, freeRow_own h1], Int.mul_one] at h
/-- Kernel and reduced basis have together as many vectors as there are columns. -/
theorem kernL_dim (hP : isP p = true) {m : List (List Int)} (hT : Tab p n m) : (kernL p m n).length + (basisL p m).length = n := by
 have hp : 2 ≤ p := by have := isP_ge hP; omega
 have hR := basisL_red hP m hT
 unfold kernL
 rw [(freeTo_ind hR).basis hP (freeTo_tab hp _ _ _)]
 exact freeTo_length hR
theorem ent_trans {m : List (List Int)} (hT : Tab p n m) (h0 : 0 < m.length) {i q : Nat} (hi : i < m.length) (hq : q < n) : ent (transL m) q i = ent m i q := by
 unfold ent
 rw [transL_row hT h0 hq, tab_getD hi]; rfl
/-- Columns are made by no more than rows are. -/
theorem rank_cols (hP : isP p = true) {m : List (List Int)} (hT : Tab p n m) (h0 : 0 < m.length) : (basisL p (transL m)).length ≤ (basisL p m).length := by
 have hp : 2 ≤ p := by have := isP_ge hP; omega
 have hTT := transL_tab (p := p) (by omega) hT
 obtain ⟨R, hR⟩ : ∃ R, R = basisL p m := ⟨_, rfl⟩
 have hS := (basisL_in hP m hT).2
 rw [← hR] at hS ⊢
 have hch : ∀ i, ∃ a : Nat → Int, i < m.length → ∀ q, q < n → ent m i q % p = (sumTo R.length fun j => a j * ent R j q) % p := fun i => by
  by_cases hi : i < m.length
  · obtain ⟨a, ha⟩ := hS i hi; exact ⟨a, fun _ => ha⟩
  · exact ⟨fun _ => 0, fun h => absurd h hi⟩
 obtain ⟨a, ha⟩ := Classical.axiomOfChoice hch
 obtain ⟨A, hA⟩ : ∃ A : List (List Int), A = tab R.length fun j => tab m.length fun i => a i j % p := ⟨_, rfl⟩
 have hAl : A.length = R.length := by rw [hA, tab_len]
 have hAe : ∀ j i, j < R.length → i < m.length → ent A j i = a i j % p := fun j i hj hi => by
  unfold ent; rw [hA, tab_getD hj, tab_getD hi]
 rw [← hAl]
 refine (basisL_red hP _ hTT).ind.le hP ((basisL_in hP _ hTT).1.trans fun q hq => ⟨fun j => ent R j q, fun i hi => ?_⟩)
 rw [transL_len hT h0] at hq
 show ent (transL m) q i % p = _
 rw [ent_trans hT h0 hi hq, ha i hi q hq, hAl]
 exact sumTo_mod p fun j hj => by rw [hAe j i hj hi, Int.mul_comm]; exact cg_mul rfl (cg_self _ _).symm
theorem trans_trans {m : List (List Int)} (hT : Tab p n m) (h0 : 0 < m.length) (hn : 0 < n) (hp : 0 < p) : transL (transL m) = m := by
 have hTT := transL_tab hp hT
 have hl := transL_len hT h0
 refine list_ext_getD [] (by rw [transL_len hTT (by omega)]) fun i hi => ?_
 rw [transL_len hTT (by omega)] at hi
 rw [transL_row hTT (by omega) hi, hl]
 refine list_ext_getD 0 (by rw [tab_len, (hT.row hi).1]) fun q hq => ?_
 rw [tab_len] at hq
 rw [tab_getD hq, ent_trans hT h0 hi hq]; rfl
/-- Rows and columns have the same rank. -/
theorem rank_trans (hP : isP p = true) {m : List (List Int)} (hT : Tab p n m) (h0 : 0 < m.length) (hn : 0 < n) : (basisL p (transL m)).length = (basisL p m).length := by
 have hp : 2 ≤ p := by have := isP_ge hP; omega
 refine Nat.le_antisymm (rank_cols hP hT h0) ?_
 have hTT := transL_tab (p := p) (by omega) hT
 have h := rank_cols hP hTT (by rw [transL_len hT h0]; exact hn)
 rwa [trans_trans hT h0 hn (by omega)] at h
end
theorem Ind.snoc' {p : Int} {n : Nat} (hP : isP p = true) {B : List (List Int)} {v : List Int} (hI : Ind p n B) (h : ¬ Sp p n B (fun q => v.getD q 0)) : Ind p n (B ++ [v]) := fun c hc => by
 have hsum : ∀ q, q < n → (sumTo B.length (fun i => c i * ent B i q) + c B.length * v.getD q 0) % p = 0 := fun q hq => by
  have h1 := hc q hq
  rw [List.length_append, List.length_singleton, sumTo_succ] at h1
  refine Eq.trans ?_ h1
  congr 1
  congr 1
  · refine sumTo_congr fun i hi => ?_
    unfold ent; rw [getD_app_left [] _ hi]
  · unfold ent
    have e9 : (B ++ [v]).getD B.length [] = v := by
     rw [List.getD_eq_getElem?_getD, List.getElem?_append_right (Nat.le_refl _)]
     simp
    rw [e9]
 have h0 : c B.length % p = 0 := Classical.byContradiction fun hne => h (by
  refine ⟨fun i => -(invF p (c B.length % p)) * c i, fun q hq => ?_⟩
  have hi := inv_mod hP hne
  obtain ⟨t, ht⟩ := cg_wit.1 ((hsum q hq).trans (Int.zero_emod p).symm)
  have h3 := isP_ge hP
  obtain ⟨s, hs⟩ := cg_wit.1 (hi.trans (Int.emod_eq_of_lt (a := 1) (by omega) (by omega)).symm)
  have e1 : (sumTo B.length fun i => -(invF p (c B.length % p)) * c i * ent B i q) = -(invF p (c B.length % p)) * sumTo B.length (fun i => c i * ent B i q) := by
   rw [← sumTo_mul]
   exact sumTo_congr fun i _ => Int.mul_assoc _ _ _
  rw [e1]
  obtain ⟨S, hS⟩ : ∃ S, S = sumTo B.length (fun i => c i * ent B i q) := ⟨_, rfl⟩
  obtain ⟨I, hI⟩ : ∃ I, I = invF p (c B.length % p) := ⟨_, rfl⟩
  obtain ⟨C, hC⟩ : ∃ C, C = c B.length := ⟨_, rfl⟩
  obtain ⟨V, hV⟩ : ∃ V, V = v.getD q 0 := ⟨_, rfl⟩
  rw [← hI, ← hC] at hs
  rw [← hS, ← hC, ← hV] at ht
  show v.getD q 0 % p = _
  rw [← hV, ← hI, ← hS]
  refine cg_wit.2 ⟨I * t - s * V, ?_⟩
  have e2 : S = p * t - C * V := by omega
  rw [e2]
  clear e1 e2 ht hi hsum hc
  grind)
 have h1 : ∀ i, i < B.length → c i % p = 0 := hI c fun q hq => by
  have h2 := hsum q hq
  obtain ⟨t, ht⟩ := cg_wit.1 (h0.trans (Int.zero_emod p).symm)
  rw [ht] at h2
  obtain ⟨S, hS⟩ : ∃ S, S = sumTo B.length (fun i => c i * ent B i q) := ⟨_, rfl⟩
  rw [← hS] at h2 ⊢
  obtain ⟨s, hs⟩ := cg_wit.1 (h2.trans (Int.zero_emod p).symm)
  exact (cg_wit.2 ⟨s - t * v.getD q 0, by grind⟩).trans (Int.zero_emod p)
 intro i hi
 rw [List.length_append, List.length_singleton] at hi
 rcases Nat.lt_or_ge i B.length with h2 | h2
 · exact h1 i h2
 · obtain rfl : i = B.length := by omega
   exact h0
section
variable {p : Int} {n : Nat}
end
section
variable {p : Int} {n : Nat}
theorem mat_ext {a b : List (List Int)} (ha : Tab p n a) (hb : Tab p n b) (h : a.length = b.length) (he : ∀ i q, i < a.length → q < n → ent a i q = ent b i q) : a = b := by
 refine list_ext_getD [] h fun i hi => ?_
 have h1 := ha.row hi
 have h2 := hb.row (show i < b.length by omega)
 refine list_ext_getD 0 (by rw [h1.1, h2.1]) fun q hq => ?_
 rw [h1.1] at hq
 exact he i q hi hq
theorem trans_at {m : List (List Int)} (hT : Tab p n m) (hl : m.length = n) (hn : 0 < n) {i q : Nat} (hi : i < n) (hq : q < n) : ent (transL m) i q = ent m q i := ent_trans hT (by omega) (by omega) hi
theorem trans_ok (hp : 0 < p) {m : List (List Int)} (hT : Tab p n m) (hl : m.length = n) (hn : 0 < n) : Tab p n (transL m) ∧ (transL m).length = n := by
 have := transL_tab hp hT
 rw [hl] at this
 exact ⟨this, transL_len hT (by omega)⟩
end
/-- Matrices with n rows and columns of numbers. -/
structure Mt (p : Int) (n : Nat) where
 l : List (List Int)
 len : l.length = n
 tab : Tab p n l
 pos : 0 < p
section
variable {p : Int} {n : Nat}
def Mt.at (x : Mt p n) (i j : Nat) : Int := ent x.l i j
theorem Mt.ext {x y : Mt p n} (h : x.l = y.l) : x = y := by
 cases x; cases y; simp only at h; subst h; rfl
theorem Mt.small (x : Mt p n) (i j : Nat) : 0 ≤ x.at i j ∧ x.at i j < p := x.tab.ent x.pos i j
theorem Mt.same {x y : Mt p n} (h : ∀ i j, i < n → j < n → x.at i j % p = y.at i j % p) : x = y := Mt.ext (mat_ext x.tab y.tab (x.len.trans y.len.symm) fun i q hi hq => by
 rw [x.len] at hi
 exact cg_eq (x.small i q) (y.small i q) (h i q hi hq))
def Mt.of (hp : 0 < p) (f : Nat → Nat → Int) : Mt p n := ⟨Go.Proofs.YtmkjdpnoloofjaaGreat.tab n fun i => Go.Proofs.YtmkjdpnoloofjaaGreat.tab n fun j => f i j % p, tab_len _ _, Tab.tab fun i _ => ⟨tab_len _ _, NumsL.tab fun j _ => ⟨Int.emod_nonneg _ (by omega), Int.emod_lt_of_pos _ hp⟩⟩, hp⟩
theorem Mt.of_at (hp : 0 < p) (f : Nat → Nat → Int) {i j : Nat} (hi : i < n) (hj : j < n) : (Mt.of hp f : Mt p n).at i j = f i j % p := by
 show ((Go.Proofs.YtmkjdpnoloofjaaGreat.tab n fun i => Go.Proofs.YtmkjdpnoloofjaaGreat.tab n fun j => f i j % p).getD i []).getD j 0 = _
 rw [tab_getD hi, tab_getD hj]
theorem Mt.of_cg (hp : 0 < p) (f : Nat → Nat → Int) {i j : Nat} (hi : i < n) (hj : j < n) : (Mt.of hp f : Mt p n).at i j % p = f i j % p := by rw [Mt.of_at hp f hi hj, cg_self]
instance : Mul (Mt p n) := ⟨fun x y => Mt.of x.pos fun i j => sumTo n fun k => x.at i k * y.at k j⟩
instance : Add (Mt p n) := ⟨fun x y => Mt.of x.pos fun i j => x.at i j + y.at i j⟩
instance : HMul Int (Mt p n) (Mt p n) := ⟨fun k x => Mt.of x.pos fun i j => k * x.at i j⟩
def Mt.one (hp : 0 < p) : Mt p n := Mt.of hp fun i j => if i = j then 1 else 0
theorem Mt.add_at (x y : Mt p n) {i j : Nat} (hi : i < n) (hj : j < n) : (x + y).at i j % p = (x.at i j + y.at i j) % p := Mt.of_cg x.pos _ hi hj
theorem Mt.add_comm (x y : Mt p n) : x + y = y + x := Mt.same fun i j hi hj => by rw [Mt.add_at _ _ hi hj, Mt.add_at _ _ hi hj, Int.add_comm]
theorem Mt.add_assoc (x y z : Mt p n) : x + y + z = x + (y + z) := Mt.same fun i j hi hj => by
 rw [Mt.add_at _ _ hi hj, Mt.add_at _ _ hi hj, cg_add (Mt.add_at x y hi hj) rfl, cg_add (rfl : x.at i j % p = x.at i j % p) (Mt.add_at y z hi hj), Int.add_assoc]
end
section
variable {p : Int} {n : Nat}
instance : Std.Associative (α := Mt p n) (· + ·) := ⟨Mt.add_assoc⟩
instance : Std.Commutative (α := Mt p n) (· + ·) := ⟨Mt.add_comm⟩
end
end Go.Proofs.YtmkjdpnoloofjaaGreat
namespace Go.Proofs.YtmkjdpnoloofjaaGreat
open Go.RowKit
set_option maxHeartbeats 1600000 in
set_option maxRecDepth 8000 in
theorem isTable_ok (p : Int) (A : Option Addr) (n c : Nat) (M : List (List Int)) (m : Nat) (w : World) (hp0 : 0 < p) (hp1 : p ≤ 13) (hn : n ≤ 16) (hm1 : 1 ≤ m) (hm : m ≤ 16) (ha : RdII w A n M) (hT : Tab p m M) :
    Calls Tryz.prog 158 #[.int .i64 p, .slice A n c] w fun e w' => e = .returned (.bool true) ∧ w = w' := by
 have HT := Lib.hid hT
 have t1 : decide ((16 : Int) < (n : Int)) = false := by simp; omega
 have t2 : decide ((m : Int) < 1) = false := by simp; omega
 have t3 : decide ((16 : Int) < (m : Int)) = false := by simp; omega
 have t4 : ((m : Int) != (m : Int)) = false := by simp
 clear hT
 go_enter Tryz.func158, Tryz.ntmps158
 go_wp2
 go_loopw [12] (fun i wr => ∃ k : Nat, k ≤ n ∧ i = .int .i64 k ∧ wr = w) (fun i _ => n - (intOf i).toNat)
 case atStart => exact ⟨0, by omega, rfl, rfl⟩
 case round =>
  obtain ⟨k, hk, rfl, rfl⟩ := hrel
  by_cases hlt : k < n
  · obtain ⟨g, o, rfl, hxk, A1, c1, hc1, hr1, -⟩ := ha.at_ hlt
    obtain ⟨g0, o0, e0, hx0, A0, c0, hc0, hr0, -⟩ := ha.at_ (show 0 < n by omega)
    cases e0
    obtain ⟨l1, n1⟩ := HT.out M[k] (List.getElem_mem hxk)
    obtain ⟨l0, -⟩ := HT.out M[0] (List.getElem_mem hx0)
    rw [l1] at hc1 hr1
    rw [l0] at hc0
    rw [Nat.add_zero] at hc0
    have his := is_b p A1 m c1 M[k] wr (by omega) (by omega) (by omega) hr1 (List.all_eq_true.2 fun x hx => by have := n1 x hx; simp [inR]; omega)
    clear hr1 hr0 l1 n1 l0 ha
    go_wp2_with fail
    refine his.mono ?_
    rintro e w1 ⟨rfl, rfl⟩
    go_wp2
    go_roundw
    case rel => exact ⟨k + 1, by omega, by go_num, by first | rfl | trivial⟩
    case measure => simp [intOf]; omega
  · go_wp2
    go_ret
    exact ⟨rfl, rfl⟩
def MkO (w0 w : World) (A : Option Addr) (n c : Nat) (xss : List (List Int)) : Prop := ∃ rows, Mk w0 w 24 A n c rows ∧ rows.length = xss.length ∧
 ∀ (k : Nat) (h : k < xss.length), ∃ A' c', rows[k]? = some (.slice A' xss[k].length c') ∧ Own w 0 2 A' xss[k].length c' (ints xss[k])
theorem MkII.o {w0 w : World} {A : Option Addr} {n c : Nat} {xss : List (List Int)} (h : MkII w0 w A n c xss) : MkO w0 w A n c xss := by
 obtain ⟨rows, hm, hn⟩ := h
 exact ⟨rows, hm, hn.len, fun k hk => by obtain ⟨A', c', e, ho⟩ := hn.row k hk; exact ⟨A', c', e, ho.base (Nat.zero_le _)⟩⟩
theorem MkO.rd {w0 w : World} {A : Option Addr} {n c : Nat} {xss : List (List Int)} (h : MkO w0 w A n c xss) : RdII w A n xss := by
 obtain ⟨rows, hm, hl, hk⟩ := h
 exact ⟨rows, hm.rd, hl, fun k hlt => by obtain ⟨A', c', e, ho⟩ := hk k hlt; exact ⟨A', c', e, ho.rd, ho.cap⟩⟩
theorem MkO.b {w0 w : World} {A : Option Addr} {n c : Nat} {xss : List (List Int)} (h : MkO w0 w A n c xss) : Below w0.heap.size w0 w := by
 obtain ⟨_, hm, _⟩ := h; exact hm.1
/-- A row that lies there is appended. -/
theorem wpList_appRowO {ops : Array Oper} {rest : List Oper} {o : Oper} {a : Act} {Q : Exit → Act → World → Prop} (w0 w1 : World)
    (hgd : o.guard = none) (s x : Operand) (ho : o.op = .call { callee := .builtin .append, args := #[s, x], argTypes := #[27, 27] })
    (A : Option Addr) (n c : Nat) (xss : List (List Int)) (A1 : Option Addr) (m c1 : Nat) (xs : List Int) (hM : MkO w0 w1 A n c xss) (hr : Own w1 0 2 A1 m c1 (ints xs)) (hn : n ≤ 1099511627776)
    (hs : a.eval s = .slice A n c) (hx : a.eval x = .slice (some ⟨w1.heap.size, 0, none⟩) 1 1)
    (h : ∀ A' c' w', MkO w0 w' A' (n + 1) c' (xss ++ [xs]) → w1.grownBy w' (Value.slice A n c).ownBlock → (∃ g, A' = some ⟨g, 0, none⟩ ∧ ((Value.slice A n c).ownBlock = some g ∨ w1.heap.size ≤ g)) → wpList Tryz.prog ops Q rest (a.put o.dst (.slice A' (n + 1) c')) w') :
    wpList Tryz.prog ops Q (o :: rest) a (w1.alloc (.cells #[.slice A1 m c1] 24)) := by
 obtain ⟨rows, hm, hl, hrow⟩ := hM
 have hml : xs.length = m := by have := hr.len; rwa [ints_length] at this
 subst hml
 refine wpList_app1 w0 w1 27 24 (.slice none 0 0) 24 Tryz.underlying27 info_s rfl (by omega) hgd s x ho A n c rows (.slice A1 xs.length c1) hm hn rfl hs hx ?_
 intro A' c' w' hM' hg hat
 refine h A' c' w' ⟨_, hM', by simp [hl], fun k hk => ?_⟩ hg hat
 by_cases hlt : k < xss.length
 · obtain ⟨A2, c2, e, ho2⟩ := hrow k hlt
   simp only [List.getElem_append_left hlt]
   exact ⟨A2, c2, by rw [List.getElem?_append_left (by omega)]; exact e, ho2.grown hg (ho2.ne hm.2 (by decide))⟩
 · have hk' : k = xss.length := by simp at hk; omega
   subst hk'
   simp only [List.getElem_append_right (Nat.le_refl _), Nat.sub_self, List.getElem_cons_zero]
   exact ⟨A1, c1, by rw [List.getElem?_append_right (by omega), hl, Nat.sub_self]; rfl, hr.grown hg (hr.ne hm.2 (by decide))⟩
set_option maxHeartbeats 800000 in
set_option maxRecDepth 8000 in
theorem blades_any (P : Int) (A : Option Addr) (n c : Nat) (w : World) (hn : n ≤ 10) :
    Calls Tryz.prog 235 #[.agg #[.int .i64 P, .slice A n c]] w fun e w' => ∃ A' c', e = .returned (.slice A' (pw n) c') ∧ MkII w w' A' (pw n) c' (unitM (pw n)) := by
 have hB0 : Below w.heap.size w (w.alloc (.cells #[.int .i64 P, .slice A n c] 26)) := zG.alloc (Nat.le_refl _) _
 have k0 : Blk (w.alloc (.cells #[.int .i64 P, .slice A n c] 26)) w.heap.size 26 #[.int .i64 P, .slice A n c] := Blk.new _ _ _
 obtain ⟨q0, q1⟩ := k0.two
 have hp : pw n ≤ 1024 := pw_le hn
 have hun := fun w' => unit_any (pw n) w' (by omega)
 go_enter Tryz.func235, Tryz.ntmps235
 go_wp2_with fail
 refine (dim_any _ _ _ _ _).mono ?_
 rintro e w1 ⟨rfl, hb1⟩
 go_wp2_with fail
 rw [wrap_pw n (by omega)]
 refine (hun _).mono ?_
 rintro e w2 ⟨A2, c2, rfl, hM⟩
 go_wp2
 go_ret
 exact ⟨_, _, rfl, hM.after (hB0.trans (hb1.mono hB0.size))⟩
set_option maxHeartbeats 1600000 in
set_option maxRecDepth 8000 in
theorem spans_any (p : Int) (A : Option Addr) (n c : Nat) (L : List (List Int)) (X : Option Addr) (m cx : Nat) (v : List Int) (w : World) (HP : isP p = true) (hn0 : 0 < n) (hn : n ≤ 16) (hm1 : 1 ≤ m) (hm : m ≤ 16) (ha : RdII w A n L) (hL : Tab p m L) (hx : Own w 0 2 X m cx (ints v)) (hv : NumsL p v) :
    Calls Tryz.prog 159 #[.int .i64 p, .slice A n c, .slice X m cx] w fun e w' => e = .returned (.bool (decide ((basisL p (L ++ [v])).length = (basisL p L).length))) ∧ Below w.heap.size w w' := by
 have hvl : v.length = m := hx.rd.lenI
 have hcl := cloneRows_any p A n c L m w (by omega) (by omega) ha hL
 have hb1 := Lib.hid fun (w' : World) (A' : Option Addr) (c' : Nat) (h : RdII w' A' (n + 1) (L ++ [v])) => basis_any p A' (n + 1) c' (L ++ [v]) m w' HP (by omega) (by omega) h (hL.snoc ⟨hvl, hv⟩)
 have hb2 := Lib.hid fun (w' : World) (h : Below w.heap.size w w') => basis_any p A n c L m w' HP (by omega) (by omega) (ha.below h) hL
 obtain ⟨k1, hk1⟩ : ∃ k, k = (basisL p (L ++ [v])).length := ⟨_, rfl⟩
 obtain ⟨k, hk⟩ : ∃ k, k = (basisL p L).length := ⟨_, rfl⟩
 rw [← hk1, ← hk]
 have HK1 := Lib.hid hk1
 have HK := Lib.hid hk
 clear hk1 hk
 have HX := Lib.hid hx
 clear hvl hv hL ha hx HP
 go_enter Tryz.func159, Tryz.ntmps159
 go_wp2_with fail
 refine hcl.mono ?_
 rintro e w1 ⟨A1, c1, rfl, hM1⟩
 have HM1 := Lib.hid hM1
 clear hcl hM1
 go_wp2_with (at_builtin; (refine wpList_appRowO w w1 rfl _ _ rfl A1 n c1 L X m cx v HM1.out.o (HX.out.below HM1.out.b) (by omega) rfl rfl ?_; intro A2 c2 w2 hM2 hg2 hat2))
 have hcall := hb1.out w2 A2 c2 hM2.rd
 rw [← HK1.out] at hcall
 have hB2 := hM2.b
 clear hM2 hg2 hat2
 go_wp2_with fail
 refine hcall.mono ?_
 rintro e w3 ⟨A3, c3, rfl, hM3⟩
 have hB3 := hB2.trans (hM3.b.mono hB2.size)
 have hcal2 := hb2.out w3 hB3
 rw [← HK.out] at hcal2
 have e1 : ((k1 : Int) == (k : Int)) = decide (k1 = k) := by rw [Bool.eq_iff_iff]; simp; omega
 clear hcall hM3 hB2
 go_wp2_with fail
 refine hcal2.mono ?_
 rintro e w4 ⟨A4, c4, rfl, hM4⟩
 have hB4 := hB3.trans (hM4.b.mono hB3.size)
 clear hcal2 hM4
 go_wp2
 go_ret
 exact ⟨rfl, hB4⟩
set_option maxHeartbeats 1600000 in
set_option maxRecDepth 8000 in
theorem InSpan_any (p : Int) (A : Option Addr) (n c : Nat) (L : List (List Int)) (X : Option Addr) (m cx : Nat) (v : List Int) (w : World) (HP : isP p = true) (hn0 : 0 < n) (hn : n ≤ 16) (hm1 : 1 ≤ m) (hm : m ≤ 16) (ha : RdII w A n L) (hL : Tab p m L) (hx : Own w 0 2 X m cx (ints v)) (hv : NumsL p v) :
    Calls Tryz.prog 58 #[.int .i64 p, .slice A n c, .slice X m cx] w fun e w' => e = .returned (.tuple #[.bool (decide ((basisL p (L ++ [v])).length = (basisL p L).length)), .int .i64 0]) ∧ Below w.heap.size w w' := by
 obtain ⟨hp3, hp2⟩ := isP_ge HP
 have hip := IsPrime_b p w HP
 have hit := isTable_ok p A n c L m w (by omega) hp2 hn hm1 hm ha hL
 have his := is_b p X m cx v w (by omega) (by omega) (by omega) hx.rd (List.all_eq_true.2 fun x hx => by have := hv x hx; simp [inR]; omega)
 have hsp := spans_any p A n c L X m cx v w HP hn0 hn hm1 hm ha hL hx hv
 obtain ⟨g, o, rfl, hx0, A0, c0, hc0, -, -⟩ := ha.at_ hn0
 rw [(hL L[0] (List.getElem_mem hx0)).1, Nat.add_zero] at hc0
 have t1 : ((n : Int) == 0) = false := by simp; omega
 have t4 : ((m : Int) != (m : Int)) = false := by simp
 obtain ⟨b, hb⟩ : ∃ b, b = decide ((basisL p (L ++ [v])).length = (basisL p L).length) := ⟨_, rfl⟩
 rw [← hb] at hsp ⊢
 clear hL ha hx hv HP hb
 go_enter Tryz.func58, Tryz.ntmps58
 go_wp2_with fail
 refine hip.mono ?_
 rintro e w1 ⟨rfl, rfl⟩
 go_wp2_with fail
 refine hit.mono ?_
 rintro e w1 ⟨rfl, rfl⟩
 go_wp2_with fail
 refine his.mono ?_
 rintro e w1 ⟨rfl, rfl⟩
 go_wp2_with fail
 refine hsp.mono ?_
 rintro e w1 ⟨rfl, hb⟩
 go_wp2
 go_ret2
 exact ⟨rfl, hb⟩
end Go.Proofs.YtmkjdpnoloofjaaGreat

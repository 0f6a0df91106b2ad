/-
  LawFnBivectors: part 4 of the texts that the proof needs. No condition.
-/
import Derived.Test.YtggigolkncckoaaGreatP3
namespace Go.Proofs.YtggigolkncckoaaGreat
open Go.RowKit
/-- A function of lists of n numbers is linear, but for multiples of P. -/
def LinF (P : Int) (n : Nat) (F : List Int → Int) : Prop := ∀ v : List Int, v.length = n → NumsL P v → F v % P = (sumTo n fun k => F (unitRow n k) * v.getD k 0) % P
section
variable {P : Int} {n : Nat} {F G : List Int → Int}
theorem LinF.congr (hp : 2 ≤ P) (h : LinF P n F) (he : ∀ v : List Int, v.length = n → NumsL P v → G v % P = F v % P) : LinF P n G := fun v hv hn => by
  rw [he v hv hn, h v hv hn]
  refine sumTo_mod P fun k _ => ?_
  rw [Int.mul_emod, ← he _ (unitRow_len n k) (unitRow_nums hp n k), ← Int.mul_emod]
theorem LinF.mul (h : LinF P n F) (c : Int) : LinF P n (fun v => c * F v) := fun v hv hn => by
  show c * F v % P = _
  rw [Int.mul_emod, h v hv hn, ← Int.mul_emod, ← sumTo_mul]
  refine sumTo_mod P fun k _ => ?_
  rw [Int.mul_assoc]
theorem LinF.add (h : LinF P n F) (h' : LinF P n G) : LinF P n (fun v => F v + G v) := fun v hv hn => by
  show (F v + G v) % P = _
  rw [Int.add_emod, h v hv hn, h' v hv hn, ← Int.add_emod, ← sumTo_add]
  refine sumTo_mod P fun k _ => ?_
  rw [Int.add_mul]
theorem LinF.zero : LinF P n (fun _ => 0) := fun v _ _ => by
  show (0 : Int) % P = _
  rw [sumTo_zero fun k _ => by simp]
theorem LinF.sum {H : Nat → List Int → Int} : ∀ (N : Nat), (∀ a, a < N → LinF P n (H a)) → LinF P n (fun v => sumTo N fun a => H a v)
  | 0, _ => LinF.zero
  | N + 1, h => (LinF.sum N fun a ha => h a (by omega)).add (h N (by omega))
end
/-- Where a vector's numbers lie in its multivector. -/
theorem vecTo_getD {n : Nat} (v : List Int) {b : Nat} (hb : b < pw n) : ∀ k, k ≤ n → (vecTo n v k).getD b 0 = sumTo k fun i => if b = 2 ^ i then v.getD i 0 else 0 := by
  intro k
  induction k with
  | zero => intro _; simp [vecTo, sumTo, List.getD_eq_getElem?_getD, hb]
  | succ k ih =>
    intro hk
    rw [vecTo_succ, sumTo_succ, List.getD_eq_getElem?_getD, List.getElem?_set]
    have hl : 2 ^ k < (vecTo n v k).length := by rw [vecTo_len]; exact two_lt (by omega)
    by_cases h : b = 2 ^ k
    · rw [if_pos h.symm, if_pos hl, if_pos h]
      have h0 : (sumTo k fun i => if b = 2 ^ i then v.getD i 0 else 0) = 0 := sumTo_zero fun i hi => by
        rw [if_neg]
        intro e
        have : 2 ^ i < 2 ^ k := Nat.pow_lt_pow_right (by omega) hi
        omega
      rw [h0]
      simp
    · rw [if_neg (fun e => h e.symm), if_neg h, ← ih (by omega), Int.add_zero, List.getD_eq_getElem?_getD]
theorem unitRow_getD {n k i : Nat} (hi : i < n) : (unitRow n k).getD i 0 = if k = i then 1 else 0 := by
  unfold unitRow
  rw [List.getD_eq_getElem?_getD, List.getElem?_set]
  by_cases h : k = i
  · rw [if_pos h, if_pos (by simp; omega), if_pos h]; rfl
  · rw [if_neg h, if_neg h, List.getElem?_replicate, if_pos hi]; rfl
theorem LinF.vec {P : Int} {n b : Nat} (hb : b < pw n) : LinF P n (fun v => (vecTo n v n).getD b 0) := fun v _ _ => by
  show (vecTo n v n).getD b 0 % P = _
  rw [vecTo_getD v hb n (Nat.le_refl _)]
  refine sumTo_mod P fun k hk => ?_
  show _ = (vecTo n (unitRow n k) n).getD b 0 * v.getD k 0 % P
  rw [vecTo_getD _ hb n (Nat.le_refl _)]
  congr 1
  rw [sumTo_one k hk fun i hi hne => by
    split
    · rw [unitRow_getD hi, if_neg (fun e => hne e.symm)]
    · rfl]
  rw [unitRow_getD hk, if_pos rfl]
  split
  · simp
  · simp
/-- The bracket with a vector, at a place. -/
theorem LinF.brk {P : Int} {sq : List Int} {n : Nat} {xs : List Int} (hx : xs.length = pw n) (_hxs : NumsL P xs) (hp : 2 ≤ P) {m : Nat} (hm : m < pw n) :
    LinF P n (fun v => (plusL P (mulL P sq xs (vecTo n v n)) (mulL P sq (vecTo n v n) xs) (-1)).getD m 0) := by
  have h1 : LinF P n (fun v => sumTo (pw n) fun a => xs.getD a 0 * fac P sq a (a ^^^ m) * (vecTo n v n).getD (a ^^^ m) 0) :=
    LinF.sum _ fun a ha => (LinF.vec (xor_lt ha hm)).mul _
  have h2 : LinF P n (fun v => sumTo (pw n) fun a => xs.getD (a ^^^ m) 0 * fac P sq a (a ^^^ m) * (vecTo n v n).getD a 0) :=
    LinF.sum _ fun a ha => (LinF.vec ha).mul _
  refine LinF.congr hp (h1.add (h2.mul (-1))) fun v hv _ => ?_
  have hl := vecTo_len n v n
  show (plusL P (mulL P sq xs (vecTo n v n)) (mulL P sq (vecTo n v n) xs) (-1)).getD m 0 % P = _
  rw [plusL_getD _ _ (by rw [mulL_len, hx]; exact hm), Int.emod_emod_of_dvd _ (Int.dvd_refl P)]
  unfold mulL
  rw [prodL_getD P sq _ xs _ n m hx hl hm, prodL_getD P sq _ _ xs n m hl hx hm]
  rw [Int.add_emod, Int.emod_emod_of_dvd _ (Int.dvd_refl P), Int.mul_emod (-1), Int.emod_emod_of_dvd _ (Int.dvd_refl P), ← Int.mul_emod, ← Int.add_emod]
  congr 1
  congr 1
  · refine sumTo_congr fun a _ => ?_
    unfold term
    rw [if_pos rfl, Int.mul_assoc, Int.mul_comm ((vecTo n v n).getD (a ^^^ m) 0), ← Int.mul_assoc]
  · congr 1
    refine sumTo_congr fun a _ => ?_
    unfold term
    rw [if_pos rfl, Int.mul_comm ((vecTo n v n).getD a 0), Int.mul_assoc, Int.mul_comm ((vecTo n v n).getD a 0), ← Int.mul_assoc]
/-- The columns of a bivector's matrix. -/
def colsL (P : Int) (sq : List Int) (n : Nat) (xs : List Int) : List (List Int) := tab n fun k => turnL P sq n xs (unitRow n k)
theorem colsL_len (P : Int) (sq : List Int) (n : Nat) (xs : List Int) : (colsL P sq n xs).length = n := tab_len _ _
theorem colsL_tab {P : Int} (hp : 2 ≤ P) (sq : List Int) (n : Nat) (xs : List Int) : Tab P n (colsL P sq n xs) :=
  Tab.tab fun _ _ => ⟨turnL_len _ _ _ _ _, turnL_nums hp _ _ _ _⟩
theorem turnL_lin {P : Int} {sq : List Int} {n : Nat} {xs : List Int} (hx : xs.length = pw n) (hxs : NumsL P xs) (hp : 2 ≤ P) {i : Nat} (hi : i < n) :
    LinF P n (fun v => (turnL P sq n xs v).getD i 0) := by
  refine LinF.congr hp ((LinF.brk (sq := sq) hx hxs hp (two_lt hi)).mul (invF P 2)) fun v hv hn => ?_
  have hl : (partL n (brkL P sq n xs (vecTo n v n))).length = n := partL_len _ _
  show (turnL P sq n xs v).getD i 0 % P = _
  unfold turnL
  rw [scaleL_getD _ (by rw [hl]; exact hi), Int.emod_emod_of_dvd _ (Int.dvd_refl P), Int.mul_comm]
  congr 2
  simp only [partL, List.getD_eq_getElem?_getD, List.getElem?_map, List.getElem?_range hi, Option.map_some, Option.getD_some]
  unfold brkL
  rw [timesL_two P sq n _ _ hx hxs, timesL_two P sq n _ _ (vecTo_len _ _ _) (vecTo_nums (by omega) n v hn n)]
/-- The product of a bivector's matrix and a vector. -/
theorem apply_turn {P : Int} {sq : List Int} {n : Nat} {xs v : List Int} (hx : xs.length = pw n) (hxs : NumsL P xs) (hp : 2 ≤ P) (h0 : 0 < n) (hv : v.length = n) (hvn : NumsL P v) :
    applyL P (transL (colsL P sq n xs)) v = turnL P sq n xs v := by
  have hcl := colsL_len P sq n xs
  have htl : (transL (colsL P sq n xs)).length = n := transL_len (colsL_tab hp sq n xs) (by rw [hcl]; exact h0)
  apply list_ext_getD 0 (by unfold applyL; rw [tab_len, htl, turnL_len])
  intro i hi
  have hi' : i < n := by unfold applyL at hi; rw [tab_len, htl] at hi; exact hi
  unfold applyL
  rw [tab_getD (by rw [htl]; exact hi') 0]
  have hrow : (transL (colsL P sq n xs)).getD i [] = tab n fun k => (turnL P sq n xs (unitRow n k)).getD i 0 := by
    unfold transL
    have h1 : ((colsL P sq n xs).getD 0 []).length = n := ((colsL_tab hp sq n xs).row (by rw [hcl]; exact h0)).1
    rw [h1, tab_getD hi' [], hcl]
    refine tab_congr fun k hk => ?_
    unfold ent colsL
    rw [tab_getD hk []]
  rw [hrow]
  unfold dotL
  rw [tab_len]
  have hl := turnL_lin (sq := sq) hx hxs hp hi' v hv hvn
  have hs : (turnL P sq n xs v).getD i 0 % P = (turnL P sq n xs v).getD i 0 := by
    obtain ⟨a, b⟩ := (turnL_nums hp sq n xs v).getD (show 0 < P by omega) i
    exact Int.emod_eq_of_lt a b
  rw [← hs, hl]
  refine sumTo_mod P fun k hk => ?_
  rw [tab_getD hk 0]
end Go.Proofs.YtggigolkncckoaaGreat
namespace Go.Proofs.YtggigolkncckoaaGreat
theorem bit_eq (a i : Nat) : bit a i = (a.testBit i).toNat := by
  unfold bit
  rw [Nat.testBit_eq_decide_div_mod_eq]
  rcases Nat.mod_two_eq_zero_or_one (a / 2 ^ i) with h | h <;> rw [h] <;> rfl
theorem bit_le (a i : Nat) : bit a i < 2 := by unfold bit; exact Nat.mod_lt _ (by decide)
theorem bit_xor (a b i : Nat) : bit (a ^^^ b) i = (bit a i + bit b i) % 2 := by
  rw [bit_eq, bit_eq, bit_eq, Nat.testBit_xor]
  cases a.testBit i <;> cases b.testBit i <;> rfl
/-- The number of the first k bits. -/
def pcn (a : Nat) : Nat → Nat
  | 0 => 0
  | k + 1 => pcn a k + bit a k
theorem bit_half (a i : Nat) : bit (a / 2) i = bit a (i + 1) := by
  unfold bit
  rw [Nat.div_div_eq_div_mul, Nat.pow_succ, Nat.mul_comm]
theorem pcn_half (a : Nat) : ∀ k, pcn a (k + 1) = a % 2 + pcn (a / 2) k := by
  intro k
  induction k with
  | zero => simp [pcn, bit]
  | succ k ih =>
    rw [pcn, ih, pcn, bit_half, Nat.add_assoc]
theorem pc_pcn : ∀ (k a : Nat), a < 2 ^ k → pc a = pcn a k := by
  intro k
  induction k with
  | zero =>
    intro a h
    obtain rfl : a = 0 := by omega
    rw [pc_zero]; rfl
  | succ k ih =>
    intro a h
    rw [pc_rec, pcn_half, ih _ (by rw [Nat.pow_succ] at h; omega)]
theorem pcn_xor (a b : Nat) : ∀ k, pcn (a ^^^ b) k % 2 = (pcn a k + pcn b k) % 2 := by
  intro k
  induction k with
  | zero => rfl
  | succ k ih =>
    simp only [pcn]
    rw [bit_xor]
    omega
theorem pc_xor (a b : Nat) : pc (a ^^^ b) % 2 = (pc a + pc b) % 2 := by
  obtain ⟨k, ha, hb⟩ : ∃ k, a < 2 ^ k ∧ b < 2 ^ k :=
    ⟨a + b, Nat.lt_of_le_of_lt (Nat.le_add_right a b) Nat.lt_two_pow_self, Nat.lt_of_le_of_lt (Nat.le_add_left b a) Nat.lt_two_pow_self⟩
  rw [pc_pcn k _ (Nat.xor_lt_two_pow ha hb), pc_pcn k _ ha, pc_pcn k _ hb]
  exact pcn_xor a b k
theorem xor_div (a b k : Nat) : (a ^^^ b) / 2 ^ k = (a / 2 ^ k) ^^^ (b / 2 ^ k) := by
  rw [← Nat.shiftRight_eq_div_pow, ← Nat.shiftRight_eq_div_pow, ← Nat.shiftRight_eq_div_pow]
  exact Nat.shiftRight_xor_distrib
theorem swaps_left (a c b : Nat) : ∀ n, swaps (a ^^^ c) b n % 2 = (swaps a b n + swaps c b n) % 2 := by
  intro n
  induction n with
  | zero => rfl
  | succ n ih =>
    simp only [swaps]
    by_cases h : bit b n = 1
    · simp only [if_pos h]
      have := pc_xor (a / 2 ^ (n + 1)) (c / 2 ^ (n + 1))
      rw [xor_div]
      omega
    · simp only [if_neg h]; omega
theorem swaps_right (a b c : Nat) : ∀ n, swaps a (b ^^^ c) n % 2 = (swaps a b n + swaps a c n) % 2 := by
  intro n
  induction n with
  | zero => rfl
  | succ n ih =>
    simp only [swaps]
    rw [bit_xor]
    have h1 := bit_le b n
    have h2 := bit_le c n
    rcases (show bit b n = 0 ∨ bit b n = 1 by omega) with e1 | e1 <;> rcases (show bit c n = 0 ∨ bit c n = 1 by omega) with e2 | e2 <;> simp [e1, e2] <;> omega
/-- 1 or -1: the sign of a number of exchanges. -/
def sg (k : Nat) : Int := if k % 2 = 1 then -1 else 1
theorem sg_add (k l : Nat) : sg (k + l) = sg k * sg l := by
  unfold sg
  rcases Nat.mod_two_eq_zero_or_one k with h | h <;> rcases Nat.mod_two_eq_zero_or_one l with h' | h' <;> simp [Nat.add_mod, h, h']
theorem sg_congr {k l : Nat} (h : k % 2 = l % 2) : sg k = sg l := by unfold sg; rw [h]
/-- The product of the first i squares that both masks have, as an integer. -/
def comZ (sq : List Int) (a b : Nat) : Nat → Int
  | 0 => 1
  | i + 1 => comZ sq a b i * (if bit b i = 1 ∧ bit a i = 1 then sq.getD i 0 else 1)
theorem common_comZ (p : Int) (sq : List Int) (a b : Nat) : ∀ i, common p sq a b i % p = comZ sq a b i % p := by
  intro i
  induction i with
  | zero => rfl
  | succ i ih =>
    simp only [common, comZ]
    split
    · rw [Int.emod_emod_of_dvd _ (Int.dvd_refl p), Int.mul_emod, ih, ← Int.mul_emod]
    · rw [Int.mul_one, ih]
theorem comZ_symm (sq : List Int) (a b : Nat) : ∀ i, comZ sq a b i = comZ sq b a i := by
  intro i
  induction i with
  | zero => rfl
  | succ i ih => simp only [comZ]; rw [ih]; congr 1; simp only [And.comm]
theorem comZ_cocycle (sq : List Int) (a b c : Nat) : ∀ i, comZ sq a b i * comZ sq (a ^^^ b) c i = comZ sq b c i * comZ sq a (b ^^^ c) i := by
  intro i
  induction i with
  | zero => rfl
  | succ i ih =>
    simp only [comZ]
    rw [bit_xor, bit_xor]
    have key : ∀ X Y Z W s t u v : Int, X * Y = Z * W → s * t = u * v → (X * s) * (Y * t) = (Z * u) * (W * v) := fun X Y Z W s t u v h1 h2 => by
      rw [show (X * s) * (Y * t) = (X * Y) * (s * t) by rw [Int.mul_assoc, Int.mul_left_comm s, ← Int.mul_assoc], h1, h2]
      rw [Int.mul_assoc, Int.mul_left_comm W, ← Int.mul_assoc]
    refine key _ _ _ _ _ _ _ _ ih ?_
    have h1 := bit_le a i
    have h2 := bit_le b i
    have h3 := bit_le c i
    rcases (show bit a i = 0 ∨ bit a i = 1 by omega) with e1 | e1 <;> rcases (show bit b i = 0 ∨ bit b i = 1 by omega) with e2 | e2 <;> rcases (show bit c i = 0 ∨ bit c i = 1 by omega) with e3 | e3 <;> simp [e1, e2, e3]
/-- The number by which the product of two blades is that of their different bits, as an integer. -/
def facZ (sq : List Int) (a b : Nat) : Int := sg (swaps a b sq.length) * comZ sq a b sq.length
theorem fac_facZ (p : Int) (sq : List Int) (a b : Nat) : fac p sq a b % p = facZ sq a b % p := by
  unfold fac facZ sg
  split
  · rw [Int.emod_emod_of_dvd _ (Int.dvd_refl p), Int.neg_mul, Int.one_mul, ← Int.zero_sub, ← Int.zero_sub, Int.sub_emod, common_comZ, ← Int.sub_emod]
  · rw [Int.one_mul, common_comZ]
theorem facZ_cocycle (sq : List Int) (a b c : Nat) : facZ sq a b * facZ sq (a ^^^ b) c = facZ sq b c * facZ sq a (b ^^^ c) := by
  unfold facZ
  have hs : sg (swaps a b sq.length) * sg (swaps (a ^^^ b) c sq.length) = sg (swaps b c sq.length) * sg (swaps a (b ^^^ c) sq.length) := by
    rw [← sg_add, ← sg_add]
    apply sg_congr
    have h1 := swaps_left a b c sq.length
    have h2 := swaps_right a b c sq.length
    omega
  have hc := comZ_cocycle sq a b c sq.length
  have key : ∀ X Y Z W s t u v : Int, X * Y = Z * W → s * t = u * v → (X * s) * (Y * t) = (Z * u) * (W * v) := fun X Y Z W s t u v h1 h2 => by
    rw [show (X * s) * (Y * t) = (X * Y) * (s * t) by rw [Int.mul_assoc, Int.mul_left_comm s, ← Int.mul_assoc], h1, h2]
    rw [Int.mul_assoc, Int.mul_left_comm W, ← Int.mul_assoc]
  exact key _ _ _ _ _ _ _ _ hs hc
theorem xor_self_left (a b : Nat) : a ^^^ (a ^^^ b) = b := by rw [← Nat.xor_assoc, Nat.xor_self, Nat.zero_xor]
theorem xor_self_right (a b : Nat) : (b ^^^ a) ^^^ a = b := by rw [Nat.xor_assoc, Nat.xor_self, Nat.xor_zero]
theorem sumTo_xor {n : Nat} (f : Nat → Int) {c : Nat} (hc : c < pw n) : sumTo (pw n) f = sumTo (pw n) fun a => f (a ^^^ c) := by
  have h : ∀ b, b < pw n → f b = sumTo (pw n) fun a => if a ^^^ c = b then f b else 0 := fun b hb => by
    rw [sumTo_one (b ^^^ c) (xor_lt hb hc) fun i _ hne => if_neg fun e => hne (by rw [← e, xor_self_right]), if_pos (xor_self_right c b)]
  rw [sumTo_congr h, sumTo_comm]
  refine sumTo_congr fun a ha => ?_
  rw [sumTo_one (a ^^^ c) (xor_lt ha hc) fun i _ hne => if_neg fun e => hne e.symm, if_pos rfl]
theorem sumTo_mul_right (n : Nat) (f : Nat → Int) (c : Int) : sumTo n (fun i => f i * c) = sumTo n f * c := by
  rw [Int.mul_comm, ← sumTo_mul]
  exact sumTo_congr fun i _ => Int.mul_comm _ _
/-- The product of multivectors over the integers, at place m. -/
def mulZ (sq : List Int) (x y : Nat → Int) (m : Nat) : Int := sumTo (pw sq.length) fun a => x a * y (a ^^^ m) * facZ sq a (a ^^^ m)
theorem mulZ_assoc (sq : List Int) (x y z : Nat → Int) {m : Nat} (hm : m < pw sq.length) : mulZ sq (mulZ sq x y) z m = mulZ sq x (mulZ sq y z) m := by
  unfold mulZ
  rw [sumTo_congr (g := fun c => sumTo (pw sq.length) fun a => x a * y (a ^^^ c) * facZ sq a (a ^^^ c) * (z (c ^^^ m) * facZ sq c (c ^^^ m))) fun c _ => by
    rw [sumTo_mul_right, Int.mul_assoc], sumTo_comm]
  refine sumTo_congr fun a ha => ?_
  rw [sumTo_xor _ ha, ← sumTo_mul, ← sumTo_mul_right]
  refine sumTo_congr fun b hb => ?_
  have e1 : a ^^^ (b ^^^ a) = b := by rw [Nat.xor_comm b, xor_self_left]
  have e2 : (b ^^^ a) ^^^ m = b ^^^ (a ^^^ m) := Nat.xor_assoc _ _ _
  rw [e1, e2]
  have h := facZ_cocycle sq a b (b ^^^ (a ^^^ m))
  rw [xor_self_left, Nat.xor_comm a b] at h
  calc x a * y b * facZ sq a b * (z (b ^^^ (a ^^^ m)) * facZ sq (b ^^^ a) (b ^^^ (a ^^^ m)))
      = x a * y b * z (b ^^^ (a ^^^ m)) * (facZ sq a b * facZ sq (b ^^^ a) (b ^^^ (a ^^^ m))) := by
        rw [Int.mul_assoc (x a * y b), Int.mul_left_comm (facZ sq a b), ← Int.mul_assoc]
    _ = x a * y b * z (b ^^^ (a ^^^ m)) * (facZ sq b (b ^^^ (a ^^^ m)) * facZ sq a (a ^^^ m)) := by rw [h]
    _ = _ := by
        rw [← Int.mul_assoc, Int.mul_assoc (x a), Int.mul_assoc (x a)]
theorem mulZ_cg (p : Int) (sq : List Int) {x x' y y' : Nat → Int} (hx : ∀ a, a < pw sq.length → x a % p = x' a % p) (hy : ∀ a, a < pw sq.length → y a % p = y' a % p) {m : Nat} (hm : m < pw sq.length) : mulZ sq x y m % p = mulZ sq x' y' m % p := by
  unfold mulZ
  refine sumTo_mod p fun a ha => ?_
  have h1 := hx a ha
  have h2 := hy _ (xor_lt ha hm)
  rw [Int.mul_emod, Int.mul_emod (x a), h1, h2, ← Int.mul_emod (x' a), ← Int.mul_emod]
structure Cl (p : Int) (sq : List Int) where
  l : List Int
  len : l.length = pw sq.length
  nums : NumsL p l
  pos : 0 < p
section
variable {p : Int} {sq : List Int}
/-- The number at a place. -/
def Cl.co (x : Cl p sq) (m : Nat) : Int := x.l.getD m 0
theorem Cl.ext {x y : Cl p sq} (h : x.l = y.l) : x = y := by
  cases x; cases y; cases h; rfl
theorem Cl.co_small (x : Cl p sq) (m : Nat) : 0 ≤ x.co m ∧ x.co m < p := x.nums.getD x.pos m
theorem Cl.co_mod (x : Cl p sq) (m : Nat) : x.co m % p = x.co m := Int.emod_eq_of_lt (x.co_small m).1 (x.co_small m).2
theorem Cl.same {x y : Cl p sq} (h : ∀ m, m < pw sq.length → x.co m % p = y.co m % p) : x = y := by
  refine Cl.ext (list_ext_getD 0 (by rw [x.len, y.len]) fun m hm => ?_)
  have := h m (by rw [← x.len]; exact hm)
  rwa [x.co_mod, y.co_mod] at this
/-- The multivector with these numbers. -/
def Cl.of (hp : 0 < p) (f : Nat → Int) : Cl p sq := ⟨tab (pw sq.length) fun m => f m % p, tab_len _ _, NumsL.tab fun _ _ => ⟨Int.emod_nonneg _ (by omega), Int.emod_lt_of_pos _ hp⟩, hp⟩
theorem Cl.of_co (hp : 0 < p) (f : Nat → Int) {m : Nat} (hm : m < pw sq.length) : (Cl.of hp f : Cl p sq).co m = f m % p := tab_getD hm 0
theorem Cl.of_cg (hp : 0 < p) (f : Nat → Int) {m : Nat} (hm : m < pw sq.length) : (Cl.of hp f : Cl p sq).co m % p = f m % p := by rw [Cl.of_co hp f hm, Int.emod_emod_of_dvd _ (Int.dvd_refl p)]
instance : Mul (Cl p sq) := ⟨fun x y => Cl.of x.pos (mulZ sq x.co y.co)⟩
instance : Add (Cl p sq) := ⟨fun x y => Cl.of x.pos fun m => x.co m + y.co m⟩
instance : Neg (Cl p sq) := ⟨fun x => Cl.of x.pos fun m => -(x.co m)⟩
instance : HMul Int (Cl p sq) (Cl p sq) := ⟨fun k x => Cl.of x.pos fun m => k * x.co m⟩
theorem Cl.mul_co (x y : Cl p sq) {m : Nat} (hm : m < pw sq.length) : (x * y).co m % p = mulZ sq x.co y.co m % p := Cl.of_cg _ _ hm
theorem Cl.add_co (x y : Cl p sq) {m : Nat} (hm : m < pw sq.length) : (x + y).co m % p = (x.co m + y.co m) % p := Cl.of_cg _ _ hm
theorem Cl.neg_co (x : Cl p sq) {m : Nat} (hm : m < pw sq.length) : (-x).co m % p = (-(x.co m)) % p := Cl.of_cg _ _ hm
theorem Cl.sm_co (k : Int) (x : Cl p sq) {m : Nat} (hm : m < pw sq.length) : (k * x).co m % p = (k * x.co m) % p := Cl.of_cg _ _ hm
theorem Cl.mul_assoc (x y z : Cl p sq) : x * y * z = x * (y * z) := Cl.same fun m hm => by
  rw [Cl.mul_co _ _ hm, Cl.mul_co _ _ hm, mulZ_cg p sq (fun a ha => Cl.mul_co x y ha) (fun _ _ => rfl) hm, mulZ_assoc sq _ _ _ hm]
  exact mulZ_cg p sq (fun _ _ => rfl) (fun a ha => (Cl.mul_co y z ha).symm) hm
theorem Cl.add_mul (x y z : Cl p sq) : (x + y) * z = x * z + y * z := Cl.same fun m hm => by
  rw [Cl.mul_co _ _ hm, mulZ_cg p sq (fun a ha => Cl.add_co x y ha) (fun _ _ => rfl) hm, Cl.add_co _ _ hm, Int.add_emod, Cl.mul_co _ _ hm, Cl.mul_co _ _ hm, ← Int.add_emod]
  unfold mulZ
  rw [← sumTo_add]
  congr 1
  exact sumTo_congr fun a _ => by rw [Int.add_mul, Int.add_mul]
theorem Cl.mul_add (x y z : Cl p sq) : x * (y + z) = x * y + x * z := Cl.same fun m hm => by
  rw [Cl.mul_co _ _ hm, mulZ_cg p sq (fun _ _ => rfl) (fun a ha => Cl.add_co y z ha) hm, Cl.add_co _ _ hm, Int.add_emod, Cl.mul_co _ _ hm, Cl.mul_co _ _ hm, ← Int.add_emod]
  unfold mulZ
  rw [← sumTo_add]
  congr 1
  exact sumTo_congr fun a _ => by rw [Int.mul_add, Int.add_mul]
theorem Cl.sm_mul (k : Int) (x y : Cl p sq) : (k * x) * y = k * (x * y) := Cl.same fun m hm => by
  rw [Cl.mul_co _ _ hm, mulZ_cg p sq (fun a ha => Cl.sm_co k x ha) (fun _ _ => rfl) hm, Cl.sm_co _ _ hm, Int.mul_emod k, Cl.mul_co _ _ hm, ← Int.mul_emod]
  unfold mulZ
  rw [← sumTo_mul]
  congr 1
  exact sumTo_congr fun a _ => by rw [Int.mul_assoc, Int.mul_assoc, Int.mul_assoc]
theorem Cl.mul_sm (k : Int) (x y : Cl p sq) : x * (k * y) = k * (x * y) := Cl.same fun m hm => by
  rw [Cl.mul_co _ _ hm, mulZ_cg p sq (fun _ _ => rfl) (fun a ha => Cl.sm_co k y ha) hm, Cl.sm_co _ _ hm, Int.mul_emod k, Cl.mul_co _ _ hm, ← Int.mul_emod]
  unfold mulZ
  rw [← sumTo_mul]
  congr 1
  exact sumTo_congr fun a _ => by rw [Int.mul_left_comm, Int.mul_assoc, Int.mul_assoc]
theorem Cl.add_comm (x y : Cl p sq) : x + y = y + x := Cl.same fun m hm => by rw [Cl.add_co _ _ hm, Cl.add_co _ _ hm, Int.add_comm]
theorem Cl.add_assoc (x y z : Cl p sq) : x + y + z = x + (y + z) := Cl.same fun m hm => by
  rw [Cl.add_co _ _ hm, Cl.add_co _ _ hm, Int.add_emod, Cl.add_co _ _ hm, ← Int.add_emod, Int.add_emod (x.co m), Cl.add_co _ _ hm, ← Int.add_emod, Int.add_assoc]
theorem Cl.sm_sm (k j : Int) (x : Cl p sq) : k * (j * x) = (k * j) * x := Cl.same fun m hm => by
  rw [Cl.sm_co _ _ hm, Int.mul_emod, Cl.sm_co _ _ hm, ← Int.mul_emod, Cl.sm_co _ _ hm, Int.mul_assoc]
theorem Cl.sm_add (k : Int) (x y : Cl p sq) : k * (x + y) = k * x + k * y := Cl.same fun m hm => by
  rw [Cl.sm_co _ _ hm, Int.mul_emod, Cl.add_co _ _ hm, ← Int.mul_emod, Cl.add_co _ _ hm, Int.add_emod, Cl.sm_co _ _ hm, Cl.sm_co _ _ hm, ← Int.add_emod, Int.mul_add]
theorem Cl.add_sm (k j : Int) (x : Cl p sq) : (k + j) * x = k * x + j * x := Cl.same fun m hm => by
  rw [Cl.sm_co _ _ hm, Cl.add_co _ _ hm, Int.add_emod, Cl.sm_co _ _ hm, Cl.sm_co _ _ hm, ← Int.add_emod, Int.add_mul]
theorem Cl.sm_cg {k j : Int} (h : k % p = j % p) (x : Cl p sq) : k * x = j * x := Cl.same fun m hm => by
  rw [Cl.sm_co _ _ hm, Cl.sm_co _ _ hm, Int.mul_emod, h, ← Int.mul_emod]
theorem Cl.neg_sm (x : Cl p sq) : -x = (-1 : Int) * x := Cl.same fun m hm => by rw [Cl.neg_co _ hm, Cl.sm_co _ _ hm, Int.neg_mul, Int.one_mul]
theorem Cl.one_sm (x : Cl p sq) : (1 : Int) * x = x := Cl.same fun m hm => by rw [Cl.sm_co _ _ hm, Int.one_mul]
/-- The numbers of a list, and no more than there are places. -/
def Cl.zero (hp : 0 < p) : Cl p sq := Cl.of hp fun _ => 0
theorem Cl.zero_sm (x : Cl p sq) : (0 : Int) * x = Cl.zero x.pos := Cl.same fun m hm => by
  rw [Cl.sm_co _ _ hm]; unfold Cl.zero; rw [Cl.of_cg _ _ hm, Int.zero_mul]
theorem Cl.add_zero (x : Cl p sq) (hp : 0 < p) : x + Cl.zero hp = x := Cl.same fun m hm => by
  rw [Cl.add_co _ _ hm, Int.add_emod]; unfold Cl.zero; rw [Cl.of_cg _ _ hm, ← Int.add_emod, Int.add_zero]
/-- The multivector 1. -/
def Cl.one (hp : 0 < p) : Cl p sq := Cl.of hp fun m => if m = 0 then 1 else 0
theorem Cl.one_co (hp : 0 < p) {m : Nat} (hm : m < pw sq.length) : (Cl.one hp : Cl p sq).co m % p = (if m = 0 then 1 else 0) % p := Cl.of_cg _ _ hm
theorem swaps_zero_right (a : Nat) : ∀ n, swaps a 0 n = 0 := by
  intro n
  induction n with
  | zero => rfl
  | succ n ih => simp [swaps, ih, bit_zero]
theorem swaps_zero_left (b : Nat) : ∀ n, swaps 0 b n = 0 := by
  intro n
  induction n with
  | zero => rfl
  | succ n ih => simp [swaps, ih, pc_zero]
theorem comZ_zero_left (sq : List Int) (b : Nat) : ∀ n, comZ sq 0 b n = 1 := by
  intro n
  induction n with
  | zero => rfl
  | succ n ih => simp [comZ, ih, bit_zero]
theorem facZ_zero_left (sq : List Int) (b : Nat) : facZ sq 0 b = 1 := by unfold facZ; rw [swaps_zero_left, comZ_zero_left]; rfl
theorem facZ_zero_right (sq : List Int) (a : Nat) : facZ sq a 0 = 1 := by unfold facZ; rw [swaps_zero_right, comZ_symm, comZ_zero_left]; rfl
theorem mulZ_one_left (sq : List Int) (x : Nat → Int) (m : Nat) : mulZ sq (fun m => if m = 0 then 1 else 0) x m = x m := by
  unfold mulZ
  rw [sumTo_one 0 (pw_pos _) fun i _ h => by dsimp only; rw [if_neg h, Int.zero_mul, Int.zero_mul]]
  dsimp only
  rw [if_pos rfl, Nat.zero_xor, facZ_zero_left, Int.one_mul, Int.mul_one]
theorem mulZ_one_right (sq : List Int) (x : Nat → Int) {m : Nat} (hm : m < pw sq.length) : mulZ sq x (fun m => if m = 0 then 1 else 0) m = x m := by
  unfold mulZ
  rw [sumTo_one m hm fun i _ h => by dsimp only; rw [if_neg (fun e => h (by have := (xor_eq_iff i m 0).1 e; rw [this, Nat.xor_zero])), Int.mul_zero, Int.zero_mul]]
  dsimp only
  rw [Nat.xor_self, if_pos rfl, facZ_zero_right, Int.mul_one, Int.mul_one]
theorem Cl.one_mul (hp : 0 < p) (x : Cl p sq) : Cl.one hp * x = x := Cl.same fun m hm => by
  rw [Cl.mul_co _ _ hm, mulZ_cg p sq (fun a ha => Cl.one_co hp ha) (fun _ _ => rfl) hm, mulZ_one_left]
theorem Cl.mul_one (hp : 0 < p) (x : Cl p sq) : x * Cl.one hp = x := Cl.same fun m hm => by
  rw [Cl.mul_co _ _ hm, mulZ_cg p sq (fun _ _ => rfl) (fun a ha => Cl.one_co hp ha) hm, mulZ_one_right sq _ hm]
theorem mulL_co {n : Nat} (hn : sq.length = n) {xs ys : List Int} (hx : xs.length = pw n) (hy : ys.length = pw n) {m : Nat} (hm : m < pw n) : (mulL p sq xs ys).getD m 0 % p = mulZ sq (fun a => xs.getD a 0) (fun a => ys.getD a 0) m % p := by
  subst hn
  unfold mulL
  rw [prodL_getD p sq _ xs ys _ m hx hy hm, Int.emod_emod_of_dvd _ (Int.dvd_refl p)]
  unfold mulZ
  refine sumTo_mod p fun a _ => ?_
  unfold term
  rw [if_pos rfl, Int.mul_emod, fac_facZ, ← Int.mul_emod]
theorem Cl.mul_l (x y : Cl p sq) : (x * y).l = mulL p sq x.l y.l := by
  refine list_ext_getD 0 (by rw [(x * y).len, mulL_len, x.len]) fun m hm => ?_
  rw [(x * y).len] at hm
  have h1 := (x * y).co_mod m
  have h2 := Cl.mul_co x y hm
  have h3 := mulL_co (p := p) rfl x.len y.len hm
  have h4 := (mulL_nums x.pos sq x.l y.l).getD x.pos m
  rw [Int.emod_eq_of_lt h4.1 h4.2] at h3
  rw [h3]
  rw [h1] at h2
  exact h2
theorem Cl.add_l (x y : Cl p sq) (k : Int) : (x + k * y).l = plusL p x.l y.l k := by
  refine list_ext_getD 0 (by rw [Cl.len, plusL_len, x.len]) fun m hm => ?_
  rw [Cl.len] at hm
  rw [plusL_getD _ _ (by rw [x.len]; exact hm)]
  have h1 := (x + k * y).co_mod m
  rw [Cl.add_co _ _ hm, Int.add_emod, Cl.sm_co _ _ hm, ← Int.add_emod] at h1
  exact h1.symm
theorem Cl.sm_l (x : Cl p sq) (k : Int) : (k * x).l = scaleL p x.l k := by
  refine list_ext_getD 0 (by rw [Cl.len, scaleL_len, x.len]) fun m hm => ?_
  rw [Cl.len] at hm
  rw [scaleL_getD _ (by rw [x.len]; exact hm)]
  have h1 := (k * x).co_mod m
  rw [Cl.sm_co _ _ hm, Int.mul_comm] at h1
  exact h1.symm
end
end Go.Proofs.YtggigolkncckoaaGreat
namespace Go.Proofs.YtggigolkncckoaaGreat
section
variable {p : Int} {sq : List Int}
def Cl.vec (hp : 0 < p) (v : List Int) : Cl p sq := Cl.of hp fun b => sumTo sq.length fun i => if b = 2 ^ i then v.getD i 0 else 0
theorem Cl.vec_co (hp : 0 < p) (v : List Int) {m : Nat} (hm : m < pw sq.length) : (Cl.vec hp v : Cl p sq).co m % p = (sumTo sq.length fun i => if m = 2 ^ i then v.getD i 0 else 0) % p := Cl.of_cg _ _ hm
theorem Cl.vec_l (hp : 0 < p) {v : List Int} (hv : NumsL p v) : (Cl.vec hp v : Cl p sq).l = vecTo sq.length v sq.length := by
  refine list_ext_getD 0 (by rw [Cl.len, vecTo_len]) fun m hm => ?_
  rw [Cl.len] at hm
  rw [vecTo_getD _ hm _ (Nat.le_refl _)]
  show (Cl.vec _ _ : Cl p sq).co m = _
  rw [← Cl.co_mod, Cl.vec_co hp v hm, ← vecTo_getD v hm _ (Nat.le_refl _)]
  have := (vecTo_nums hp sq.length v hv sq.length).getD hp m
  exact Int.emod_eq_of_lt this.1 this.2
theorem pow_inj {i j : Nat} (h : (2 : Nat) ^ i = 2 ^ j) : i = j := (Nat.pow_right_inj (by decide)).1 h
theorem bit_pow (i j : Nat) : bit (2 ^ i) j = if i = j then 1 else 0 := by
  rw [bit_eq, Nat.testBit_two_pow]
  by_cases h : i = j <;> simp [h]
theorem pc_pow (i : Nat) : pc (2 ^ i) = 1 := by
  rw [pc_pcn (i + 1) _ (Nat.pow_lt_pow_right (by decide) (by omega)), pcn, bit_pow, if_pos rfl]
  have : ∀ k, k ≤ i → pcn (2 ^ i) k = 0 := by
    intro k
    induction k with
    | zero => intro _; rfl
    | succ k ih => intro hk; rw [pcn, ih (by omega), bit_pow, if_neg (by omega)]
  rw [this i (Nat.le_refl _)]
theorem swaps_pow (a j : Nat) : ∀ k, swaps a (2 ^ j) k = if j < k then pc (a / 2 ^ (j + 1)) else 0 := by
  intro k
  induction k with
  | zero => rfl
  | succ k ih =>
    simp only [swaps]
    rw [ih, bit_pow]
    by_cases h1 : j = k
    · subst h1; simp
    · by_cases h2 : j < k
      · simp [h1, h2, show j < k + 1 by omega]
      · simp [h1, h2, show ¬ j < k + 1 by omega]
theorem comZ_pow (sq : List Int) (i j : Nat) : ∀ k, comZ sq (2 ^ i) (2 ^ j) k = if i = j ∧ i < k then sq.getD i 0 else 1 := by
  intro k
  induction k with
  | zero => simp [comZ]
  | succ k ih =>
    simp only [comZ]
    rw [ih, bit_pow, bit_pow]
    by_cases h : i = j
    · subst h
      by_cases h1 : i = k
      · subst h1; simp
      · by_cases h2 : i < k
        · simp [h1, h2, show i < k + 1 by omega]
        · simp [h1, h2, show ¬ i < k + 1 by omega]
    · simp only [h, false_and, if_false]
      rw [if_neg, Int.mul_one]
      rintro ⟨h1, h2⟩
      split at h1
      · split at h2
        · omega
        · cases h2
      · cases h1
theorem facZ_same (sq : List Int) {i : Nat} (hi : i < sq.length) : facZ sq (2 ^ i) (2 ^ i) = sq.getD i 0 := by
  unfold facZ
  rw [swaps_pow, if_pos hi, comZ_pow, if_pos ⟨rfl, hi⟩, Nat.div_eq_of_lt (Nat.pow_lt_pow_right (by decide) (by omega)), pc_zero]
  show 1 * _ = _
  rw [Int.one_mul]
theorem facZ_less (sq : List Int) {i j : Nat} (h : i < j) (hj : j < sq.length) : facZ sq (2 ^ i) (2 ^ j) = 1 ∧ facZ sq (2 ^ j) (2 ^ i) = -1 := by
  unfold facZ
  rw [swaps_pow, if_pos hj, comZ_pow, if_neg (by omega), swaps_pow, if_pos (by omega), comZ_pow, if_neg (by omega), Nat.div_eq_of_lt (Nat.pow_lt_pow_right (by decide) (by omega)), pc_zero]
  refine ⟨rfl, ?_⟩
  rw [Nat.pow_div (by omega) (by decide), pc_pow]
  rfl
theorem facZ_both (sq : List Int) {i j : Nat} (hi : i < sq.length) (hj : j < sq.length) : facZ sq (2 ^ i) (2 ^ j) + facZ sq (2 ^ j) (2 ^ i) = if i = j then 2 * sq.getD i 0 else 0 := by
  rcases Nat.lt_trichotomy i j with h | h | h
  · rw [(facZ_less sq h hj).1, (facZ_less sq h hj).2, if_neg (by omega)]; rfl
  · subst h; rw [facZ_same sq hi, if_pos rfl]; omega
  · rw [(facZ_less sq h hi).1, (facZ_less sq h hi).2, if_neg (by omega)]; rfl
/-- The product of two vectors, over the integers. -/
def bil (sq v u : List Int) : Int := sumTo sq.length fun i => v.getD i 0 * u.getD i 0 * sq.getD i 0
/-- The product of vectors, at a place. -/
theorem mulZ_vec (sq u v : List Int) {m : Nat} (hm : m < pw sq.length) :
    mulZ sq (fun b => sumTo sq.length fun i => if b = 2 ^ i then u.getD i 0 else 0) (fun b => sumTo sq.length fun i => if b = 2 ^ i then v.getD i 0 else 0) m
      = sumTo sq.length fun i => sumTo sq.length fun j => if 2 ^ i ^^^ 2 ^ j = m then u.getD i 0 * v.getD j 0 * facZ sq (2 ^ i) (2 ^ j) else 0 := by
  unfold mulZ
  rw [sumTo_congr (g := fun a => sumTo sq.length fun i => if a = 2 ^ i then sumTo sq.length fun j => if 2 ^ i ^^^ 2 ^ j = m then u.getD i 0 * v.getD j 0 * facZ sq (2 ^ i) (2 ^ j) else 0 else 0) fun a ha => ?_, sumTo_comm]
  · refine sumTo_congr fun i hi => ?_
    rw [sumTo_one (2 ^ i) (two_lt hi) fun a _ hne => if_neg hne, if_pos rfl]
  · rw [← sumTo_mul_right, ← sumTo_mul_right]
    refine sumTo_congr fun i _ => ?_
    by_cases h : a = 2 ^ i
    · rw [if_pos h, if_pos h, ← sumTo_mul, ← sumTo_mul_right]
      refine sumTo_congr fun j _ => ?_
      by_cases h2 : 2 ^ i ^^^ 2 ^ j = m
      · rw [if_pos h2, h, if_pos ((xor_eq_iff _ _ _).1 h2).symm, ← (xor_eq_iff _ _ _).1 h2]
      · rw [if_neg h2, h, if_neg (fun e => h2 ((xor_eq_iff _ _ _).2 e.symm)), Int.mul_zero, Int.zero_mul]
    · rw [if_neg h, if_neg h, Int.zero_mul, Int.zero_mul]
theorem pow_xor_zero {i j : Nat} : (2 : Nat) ^ i ^^^ 2 ^ j = 0 ↔ i = j := by
  constructor
  · intro h
    have := (xor_eq_iff _ _ _).1 h
    rw [Nat.xor_zero] at this
    exact (pow_inj this).symm
  · rintro rfl; exact Nat.xor_self _
/-- Vectors: the sum of both products is twice the number of the product. -/
theorem Cl.vec_anti (hp : 0 < p) (u v : List Int) : (Cl.vec hp u : Cl p sq) * Cl.vec hp v + Cl.vec hp v * Cl.vec hp u = (2 * bil sq u v) * Cl.one hp := Cl.same fun m hm => by
  rw [Cl.add_co _ _ hm, Int.add_emod, Cl.mul_co _ _ hm, Cl.mul_co _ _ hm, mulZ_cg p sq (fun a ha => Cl.vec_co hp u ha) (fun a ha => Cl.vec_co hp v ha) hm,
    mulZ_cg p sq (fun a ha => Cl.vec_co hp v ha) (fun a ha => Cl.vec_co hp u ha) hm, ← Int.add_emod, mulZ_vec sq u v hm, mulZ_vec sq v u hm, Cl.sm_co _ _ hm, Int.mul_emod (2 * _), Cl.one_co hp hm, ← Int.mul_emod]
  congr 1
  rw [sumTo_comm sq.length sq.length (fun i j => if 2 ^ i ^^^ 2 ^ j = m then v.getD i 0 * u.getD j 0 * facZ sq (2 ^ i) (2 ^ j) else 0), ← sumTo_add]
  unfold bil
  rw [← sumTo_mul, ← sumTo_mul_right]
  refine sumTo_congr fun i hi => ?_
  rw [← sumTo_add]
  have key : ∀ j, j < sq.length → ((if 2 ^ i ^^^ 2 ^ j = m then u.getD i 0 * v.getD j 0 * facZ sq (2 ^ i) (2 ^ j) else 0) + if 2 ^ j ^^^ 2 ^ i = m then v.getD j 0 * u.getD i 0 * facZ sq (2 ^ j) (2 ^ i) else 0) = if 2 ^ i ^^^ 2 ^ j = m then u.getD i 0 * v.getD j 0 * (if i = j then 2 * sq.getD i 0 else 0) else 0 := fun j hj => by
    rw [Nat.xor_comm (2 ^ j)]
    by_cases h : 2 ^ i ^^^ 2 ^ j = m
    · rw [if_pos h, if_pos h, if_pos h, Int.mul_comm (v.getD j 0), ← Int.mul_add, facZ_both sq hi hj]
    · rw [if_neg h, if_neg h, if_neg h]; rfl
  rw [sumTo_congr key, sumTo_one i hi fun j _ hne => by
    split
    · rw [if_neg (fun e => hne e.symm), Int.mul_zero]
    · rfl]
  rw [if_pos rfl, Nat.xor_self]
  by_cases h : m = 0
  · rw [if_pos h, if_pos h.symm, Int.mul_one, Int.mul_left_comm]
  · rw [if_neg h, if_neg (fun e => h e.symm), Int.mul_zero]
end
end Go.Proofs.YtggigolkncckoaaGreat
namespace Go.Proofs.YtggigolkncckoaaGreat
/-- m after k columns with d rows done; c: the places of the firsts. -/
structure Ech (m : List (List Int)) (k d : Nat) (c : Nat → Nat) : Prop where
  lt : ∀ i, i < d → c i < k
  mono : ∀ i j, i < j → j < d → c i < c j
  one : ∀ i, i < d → ent m i (c i) = 1
  zero : ∀ i, i < d → ∀ r, r < m.length → r ≠ i → ent m r (c i) = 0
  before : ∀ i, i < d → ∀ q, q < c i → ent m i q = 0
  rest : ∀ r, d ≤ r → r < m.length → ∀ q, q < k → ent m r q = 0
theorem ent_set {m : List (List Int)} {d : Nat} {x : List Int} (hd : d < m.length) (r q : Nat) : ent (m.set d x) r q = if r = d then x.getD q 0 else ent m r q := by
  unfold ent
  rw [getD_set]
  by_cases h : r = d
  · rw [if_pos ⟨h.symm, hd⟩, if_pos h]
  · rw [if_neg (fun hh => h hh.1.symm), if_neg h]
theorem ent_swap {m : List (List Int)} {i j : Nat} (hi : i < m.length) (hj : j < m.length) (r q : Nat) : ent (swapL m i j) r q = if r = j then ent m i q else if r = i then ent m j q else ent m r q := by
  unfold swapL
  rw [ent_set (by rw [List.length_set]; exact hj)]
  split
  · rfl
  · rw [ent_set hi]
    split
    · rfl
    · rfl
theorem ent_scaled {p : Int} {m : List (List Int)} {k d v : Nat} (hv : pivOf m k d = v) (hd : d < m.length) (hvl : v < m.length) {n : Nat} (hT : Tab p n m) (r q : Nat) (hq : q < n) :
    ent (scaledAt p m k d) r q = if r = d then ent m v q * invF p (ent m v k) % p else if r = v then ent m d q else ent m r q := by
  unfold scaledAt
  rw [hv, ent_set (by rw [swapL_len]; exact hd)]
  by_cases h : r = d
  · rw [if_pos h, if_pos h, scaleL_getD _ (by rw [(hT.row hvl).1]; exact hq)]; rfl
  · rw [if_neg h, if_neg h, ent_swap hd hvl]
    by_cases h2 : r = v
    · rw [if_pos h2, if_pos h2]
    · rw [if_neg h2, if_neg h2, if_neg h]
theorem ent_cleared {p : Int} {n : Nat} {m : List (List Int)} (hT : Tab p n m) (d k r q : Nat) (hr : r < m.length) (hq : q < n) :
    ent (clearTo p m d k m.length) r q = if r = d then ent m d q else (ent m r q + -(ent m r k) * ent m d q) % p := by
  show ((clearTo p m d k m.length).getD r []).getD q 0 = _
  rw [clearTo_getD hr]
  by_cases h : r = d
  · rw [if_neg (fun hh => hh.2 h), if_pos h, h]; rfl
  · rw [if_pos ⟨hr, h⟩, if_neg h, plusL_getD _ _ (by rw [(hT.row hr).1]; exact hq)]; rfl
theorem Ech.step {p : Int} (hP : isP p = true) {n : Nat} {s : List (List Int) × Nat} {k : Nat} {c : Nat → Nat} (hT : Tab p n s.1) (hd : s.2 ≤ s.1.length) (hk : k < n) (h : Ech s.1 k s.2 c) : ∃ c', Ech (stepB p k s).1 (k + 1) (stepB p k s).2 c' := by
  obtain ⟨m, d⟩ := s
  simp only at hT hd h
  obtain ⟨hb1, hb2⟩ := pivOf_bound m k d hd
  have hp : 2 ≤ p := by have := isP_ge hP; omega
  unfold stepB
  simp only
  by_cases hv : pivOf m k d = m.length
  · rw [if_pos hv]
    refine ⟨c, fun i hi => by have := h.lt i hi; omega, h.mono, h.one, h.zero, h.before, fun r h1 h2 q hq => ?_⟩
    by_cases hqk : q = k
    · subst hqk
      have h2' : r < m.length := h2
      exact piv_before m q (m.length - d) d r h1 (by show r < pivOf m q d; omega)
    · exact h.rest r h1 h2 q (by omega)
  · rw [if_neg hv]
    obtain ⟨v, hvv⟩ : ∃ v, v = pivOf m k d := ⟨_, rfl⟩
    rw [← hvv] at hb1 hb2 hv
    have hvl : v < m.length := by omega
    have hdl : d < m.length := by omega
    have hne : ent m v k ≠ 0 := by rw [hvv]; exact piv_at m k (m.length - d) d (by show pivOf m k d < _; omega)
    have hrange := hT.ent (by omega) v k
    obtain ⟨i1, i2, i3⟩ := inv_spec hP (show 0 < ent m v k by omega) hrange.2
    have hone : ent m v k * invF p (ent m v k) % p = 1 := (i3 _ (by omega) i2).2 rfl
    have hT1 : Tab p n (scaledAt p m k d) := scaledAt_tab (by omega) hT hdl (by omega)
    have hl1 : (scaledAt p m k d).length = m.length := scaledAt_len p m k d
    have e1 := fun r q (hq : q < n) => ent_scaled (p := p) (m := m) (k := k) (d := d) hvv.symm hdl hvl hT r q hq
    have e2 := fun r q (hr : r < m.length) (hq : q < n) => ent_cleared (p := p) hT1 d k r q (by rw [hl1]; exact hr) hq
    rw [hl1] at e2
    have c1 : ∀ i, i < d → c i < n := fun i hi => by have := h.lt i hi; omega
    have z1 : ∀ q, q < k → ent (scaledAt p m k d) d q = 0 := fun q hq => by
      rw [e1 d q (by omega), if_pos rfl, h.rest v hb1 hvl q hq]; simp
    have o1 : ent (scaledAt p m k d) d k = 1 := by rw [e1 d k hk, if_pos rfl, hone]
    refine ⟨fun i => if i = d then k else c i, ?_, ?_, ?_, ?_, ?_, ?_⟩
    · intro i hi
      show (if i = d then k else c i) < k + 1
      split
      · omega
      · have := h.lt i (by omega); omega
    · intro i j hij hj
      show (if i = d then k else c i) < (if j = d then k else c j)
      rw [if_neg (show i ≠ d by omega)]
      split
      · exact h.lt i (by omega)
      · exact h.mono i j hij (by omega)
    · intro i hi
      show ent _ i (if i = d then k else c i) = 1
      by_cases hid : i = d
      · rw [if_pos hid, e2 i k (by omega) hk, if_pos hid, o1]
      · have hi' : i < d := by omega
        rw [if_neg hid, e2 i _ (by omega) (c1 i hi'), if_neg hid, z1 _ (h.lt i hi'), e1 i _ (c1 i hi'), if_neg hid, if_neg (show i ≠ v by omega), h.one i hi', Int.mul_zero]
        exact Int.emod_eq_of_lt (by omega) (by omega)
    · intro i hi r hr hri
      rw [clearTo_len, hl1] at hr
      show ent _ r (if i = d then k else c i) = 0
      by_cases hid : i = d
      · rw [if_pos hid, e2 r k hr hk, if_neg (fun e => hri (e.trans hid.symm)), o1, Int.mul_one]
        rw [Int.add_right_neg]; simp
      · have hi' : i < d := by omega
        rw [if_neg hid, e2 r _ hr (c1 i hi')]
        by_cases hrd : r = d
        · rw [if_pos hrd]; exact z1 _ (h.lt i hi')
        · rw [if_neg hrd, z1 _ (h.lt i hi'), e1 r _ (c1 i hi'), if_neg hrd]
          by_cases hrv : r = v
          · rw [if_pos hrv, h.zero i hi' d hdl (by omega)]; simp
          · rw [if_neg hrv, h.zero i hi' r hr hri]; simp
    · intro i hi q hq
      by_cases hid : i = d
      · have hq' : q < k := by simpa [hid] using hq
        rw [e2 i q (by omega) (by omega), if_pos hid]
        exact z1 q hq'
      · have hq' : q < c i := by simpa [hid] using hq
        have hi' : i < d := by omega
        have := h.lt i hi'
        rw [e2 i q (by omega) (by omega), if_neg hid, z1 q (by omega), e1 i q (by omega), if_neg hid, if_neg (show i ≠ v by omega), h.before i hi' q hq']
        simp
    · intro r h1 h2 q hq
      rw [clearTo_len, hl1] at h2
      rw [e2 r q h2 (by omega), if_neg (show r ≠ d by simp only at h1; omega)]
      by_cases hqk : q = k
      · subst hqk
        rw [o1, Int.mul_one, Int.add_right_neg]; simp
      · have hq' : q < k := by omega
        have h1' : d + 1 ≤ r := h1
        rw [z1 q hq', e1 r q (by omega), if_neg (show r ≠ d by omega)]
        by_cases hrv : r = v
        · rw [if_pos hrv, h.rest d (Nat.le_refl _) hdl q hq']; simp
        · rw [if_neg hrv, h.rest r (by omega) h2 q hq']; simp
theorem Ech.start (m : List (List Int)) (c : Nat → Nat) : Ech m 0 0 c := ⟨fun i hi => absurd hi (by omega), fun i j _ hj => absurd hj (by omega), fun i hi => absurd hi (by omega), fun i hi => absurd hi (by omega), fun i hi => absurd hi (by omega), fun _ _ _ q hq => absurd hq (by omega)⟩
/-- The place of the first number of row i. -/
def ld (B : List (List Int)) (i : Nat) : Nat := leadL (B.getD i [])
/-- A reduced basis of lists of n numbers. -/
structure Red (n : Nat) (B : List (List Int)) : Prop where
  lt : ∀ i, i < B.length → ld B i < n
  one : ∀ i, i < B.length → ent B i (ld B i) = 1
  zero : ∀ i r, i < B.length → r < B.length → r ≠ i → ent B r (ld B i) = 0
  mono : ∀ i j, i < j → j < B.length → ld B i < ld B j
theorem Red.before {n : Nat} {B : List (List Int)} (_h : Red n B) (i q : Nat) (hq : q < ld B i) : ent B i q = 0 := leadL_before _ q hq
theorem Red.inj {n : Nat} {B : List (List Int)} (h : Red n B) {i j : Nat} (hi : i < B.length) (hj : j < B.length) (e : ld B i = ld B j) : i = j := by
  rcases Nat.lt_trichotomy i j with hl | hl | hl
  · have := h.mono i j hl hj; omega
  · exact hl
  · have := h.mono j i hl hi; omega
theorem Red.nil (n : Nat) : Red n [] := ⟨fun i hi => absurd hi (by simp), fun i hi => absurd hi (by simp), fun i r hi => absurd hi (by simp), fun i j _ hj => absurd hj (by simp)⟩
theorem Red.len {n : Nat} {B : List (List Int)} (h : Red n B) : B.length ≤ n := by
  have hle : ∀ j, j < B.length → j ≤ ld B j := by
    intro j
    induction j with
    | zero => intro _; omega
    | succ j ih =>
      intro hj
      have h1 := ih (by omega)
      have h2 := h.mono j (j + 1) (by omega) hj
      omega
  by_cases h0 : B.length = 0
  · omega
  · have h1 := hle (B.length - 1) (by omega)
    have h2 := h.lt (B.length - 1) (by omega)
    omega
end Go.Proofs.YtggigolkncckoaaGreat
namespace Go.Proofs.YtggigolkncckoaaGreat
open Go.RowKit
theorem Nest.setNew {w1 w2 : World} {B : Nat} {rows : List Value} {xss : List (List Int)} {A : Option Addr} {n c : Nat} {xs : List Int} (h : Nest w1 B rows xss) (hr : Mk w1 w2 2 A n c (ints xs)) (hB : B ≤ w1.heap.size) (k : Nat) :
    Nest w2 B (rows.set k (.slice A n c)) (xss.set k xs) := by
  have hn : xs.length = n := by have := hr.2.len; rwa [ints_length] at this
  subst hn
  have hnew : ∀ g, (Value.slice A xs.length c).ownBlock = some g → w1.heap.size ≤ g := fun g hg => (World.ownsRow.lt hr.2 g hg).1
  refine ⟨by simp [h.len], fun j hj => ?_, fun i j g hij hi => ?_⟩
  · have hj' : j < xss.length := by simpa using hj
    by_cases hk : k = j
    · subst hk
      rw [List.getElem_set_self]
      exact ⟨A, c, by rw [List.getElem?_set_self (by rw [h.len]; exact hj')], hr.2.base hB⟩
    · obtain ⟨A', c', e, ho⟩ := h.row j hj'
      rw [List.getElem_set_ne hk]
      exact ⟨A', c', by rw [List.getElem?_set_ne hk]; exact e, ho.below hr.1⟩
  · rw [List.getElem?_set] at hi ⊢
    by_cases hki : k = i
    · subst hki
      rw [if_pos rfl] at hi
      rw [if_neg (by omega)]
      split at hi
      · intro hj
        have h1 := (h.block j g hj).2
        have h2 := hnew g (by simpa using hi)
        omega
      · simp at hi
    · rw [if_neg hki] at hi
      have hgi := (h.block i g hi).2
      by_cases hkj : k = j
      · rw [if_pos hkj]
        split
        · intro hj
          have h2 := hnew g (by simpa using hj)
          omega
        · simp
      · rw [if_neg hkj]
        exact h.apart i j g hij hi
section
variable {w0 w w1 w2 : World} {g n c : Nat} {xss : List (List Int)}
theorem MkII.frozen_ (h : MkII w0 w (some ⟨g, 0, none⟩) n c xss) (k : Nat) : w.frozen? ⟨g, k, none⟩ = false := by
  obtain ⟨rows, hm, _⟩ := h
  exact hm.2.frozen_ k
theorem MkII.outer {A : Option Addr} (h : MkII w0 w A n c xss) : ∃ us, Mk w0 w 24 A n c us := by
  obtain ⟨rows, hm, _⟩ := h
  exact ⟨_, hm⟩
/-- The list cut down. -/
theorem MkII.cut {A : Option Addr} {k : Nat} (h : MkII w0 w A n c xss) (hk : k ≤ n) : MkII w0 w A k c (xss.take k) := by
  obtain ⟨rows, hm, hn⟩ := h
  refine ⟨rows.take k, ⟨hm.1, hm.2.cut hk⟩, by rw [List.length_take, List.length_take, hn.len], fun j hj => ?_, fun i j b hij hi => ?_⟩
  · have hj2 : j < k ∧ j < xss.length := by rw [List.length_take] at hj; omega
    obtain ⟨A', c', e, ho⟩ := hn.row j hj2.2
    rw [List.getElem_take]
    exact ⟨A', c', by rw [List.getElem?_take, if_pos hj2.1]; exact e, ho⟩
  · rw [List.getElem?_take] at hi ⊢
    split at hi
    · split
      · exact hn.apart i j b hij hi
      · simp
    · simp at hi
end
theorem ent_at {M : List (List Int)} {i k : Nat} (hi : i < M.length) (hk : k < M[i].length) : ent M i k = M[i][k] := by
  unfold ent
  rw [getD_of_lt [] hi, getD_of_lt 0 hk]
theorem Own.keep {w w' : World} {B : Nat} {E : TypeId} {A : Option Addr} {n c : Nat} {us : List Value} (h : Own w B E A n c us) (hk : ∀ b, B ≤ b → b < w.heap.size → w'.heap[b]? = w.heap[b]?) : Rd w' A n us := by
  refine ⟨h.len, fun hn => ?_⟩
  rcases h.form with ⟨_, h0⟩ | ⟨g, rfl, hg, hg2⟩
  · omega
  · obtain ⟨g', o, e, hc⟩ := h.rd.2 hn
    refine ⟨g', o, e, fun k u hu => ?_⟩
    injection e with e
    injection e with e1 _ _
    subst e1
    exact (World.cell?_of_block (hk g hg hg2)).trans (hc k u hu)
theorem MkII.keep {w0 w w' : World} {A : Option Addr} {n c : Nat} {xss : List (List Int)} (h : MkII w0 w A n c xss) (hk : ∀ b, w0.heap.size ≤ b → b < w.heap.size → w'.heap[b]? = w.heap[b]?) : RdII w' A n xss := by
  obtain ⟨rows, hm, hn⟩ := h
  exact ⟨rows, hm.2.keep hk, hn.len, fun k hk' => by obtain ⟨A', c', e, ho⟩ := hn.row k hk'; exact ⟨A', c', e, ho.keep hk, ho.cap⟩⟩
/-- A new row is appended: what else is said of memory, too. -/
theorem wpList_appRowG {ops : Array Oper} {rest : List Oper} {o : Oper} {a : Act} {Q : Exit → Act → World → Prop} (w0 wr w1 : World)
    (hgd : o.guard = none) (s x : Operand) (ho : o.op = .call { callee := .builtin .append, args := #[s, x], argTypes := #[44, 44] })
    (A : Option Addr) (n c : Nat) (xss : List (List Int)) (A1 : Option Addr) (m c1 : Nat) (xs : List Int) (hM : MkII w0 wr A n c xss) (hr : Mk wr w1 2 A1 m c1 (ints xs)) (hn : n ≤ 1099511627776)
    (hs : a.eval s = .slice A n c) (hx : a.eval x = .slice (some ⟨w1.heap.size, 0, none⟩) 1 1)
    (h : ∀ A' c' w', MkII w0 w' A' (n + 1) c' (xss ++ [xs]) → w1.grownBy w' (Value.slice A n c).ownBlock → (∃ g, A' = some ⟨g, 0, none⟩ ∧ ((Value.slice A n c).ownBlock = some g ∨ w1.heap.size ≤ g)) → wpList Tryz.prog ops Q rest (a.put o.dst (.slice A' (n + 1) c')) w') :
    wpList Tryz.prog ops Q (o :: rest) a (w1.alloc (.cells #[.slice A1 m c1] 24)) := by
  obtain ⟨rows, hm, hnest⟩ := hM
  have hm1 := hm.below hr.1
  have hn1 := hnest.snoc hr hm.1.size
  refine wpList_app1 w0 w1 44 24 (.slice none 0 0) 24 Tryz.underlying44 info_s rfl (by omega) hgd s x ho A n c rows (.slice A1 m c1) hm1 hn rfl hs hx ?_
  intro A' c' w' hM' hg hat
  exact h A' c' w' ⟨_, hM', hn1.grown hm1.2 (by decide) hg⟩ hg hat
/-- What is kept of the blocks between two sizes, and where a list lies that grows. -/
def Keeps (w2 w3 wr : World) (v : Value) : Prop := w3.heap.size ≤ wr.heap.size ∧ (∀ b, w2.heap.size ≤ b → b < w3.heap.size → wr.heap[b]? = w3.heap[b]?) ∧ ∀ gb, v.ownBlock = some gb → gb < w2.heap.size ∨ w3.heap.size ≤ gb
theorem lt_of_own {g gb k n c : Nat} (e : (Value.slice (some ⟨g, 0, none⟩) n c).ownBlock = some gb) (h : g < k) : gb < k := by
  have : g = gb := by simpa [Value.ownBlock] using e
  omega
theorem Keeps.step {w2 w3 wr w5 w6 : World} {A A' : Option Addr} {n c c' n' : Nat} (h : Keeps w2 w3 wr (.slice A n c)) (hb : Below wr.heap.size wr w5) (hg : w5.grownBy w6 (Value.slice A n c).ownBlock)
    (hat : ∃ g, A' = some ⟨g, 0, none⟩ ∧ ((Value.slice A n c).ownBlock = some g ∨ w5.heap.size ≤ g)) : Keeps w2 w3 w6 (.slice A' n' c') := by
  obtain ⟨h1, h2, h3⟩ := h
  have s1 := hb.size
  have s2 := hg.size
  refine ⟨by omega, fun b hb1 hb2 => ?_, fun gb hgb => ?_⟩
  · rw [hg.block b (by omega) (fun e => ?_), hb.block b (by omega), h2 b hb1 hb2]
    rcases h3 b e.symm with h | h <;> omega
  · obtain ⟨g, rfl, hor⟩ := hat
    have : g = gb := by simpa [Value.ownBlock] using hgb
    subst this
    rcases hor with he | he
    · exact h3 g he
    · right; omega
theorem MkII.ne_blk {w0 w : World} {A : Option Addr} {n c g : Nat} {xss : List (List Int)} {t : TypeId} {cs : Array Value} (h : MkII w0 w A n c xss) (hb : Blk w g t cs) (hE : 24 ≠ t) : some g ≠ (Value.slice A n c).ownBlock := by
  obtain ⟨rows, hm, _⟩ := h
  exact hm.2.ne_blk hb hE
end Go.Proofs.YtggigolkncckoaaGreat
namespace Go.Proofs.YtggigolkncckoaaGreat
open Go.RowKit Go.Maps
/-- The map from the places of the firsts to the rows, of the first j rows. -/
structure Places {H : Type} (B : List (List Int)) (j : Nat) (D : DataW H) : Prop where
  map : IsMap D
  has : ∀ k : Nat, Maps.has D (.int .i64 k) = true ↔ ∃ i, i < j ∧ ld B i = k
  only : ∀ z : Lit, Maps.has D z = true → ∃ k : Nat, z = .int .i64 k
  val : ∀ i, i < j → ∀ zd, D.atKey (.int .i64 (ld B i)) zd = .lit (.int .i64 i)
theorem Places.start {H : Type} (B : List (List Int)) : Places B 0 (.map [] : DataW H) :=
  ⟨isMap_empty, fun k => ⟨fun h => by simp [has_eq] at h, fun ⟨i, hi, _⟩ => absurd hi (by omega)⟩, fun z h => by simp [has_eq] at h, fun i hi => absurd hi (by omega)⟩
theorem lit_ne {a b : Int} (h : a ≠ b) : Lit.int .i64 a ≠ Lit.int .i64 b := fun e => h (by injection e)
theorem Places.step {H : Type} {n : Nat} {B : List (List Int)} (hR : Red n B) {j : Nat} {D : DataW H} (h : Places B j D) (hj : j < B.length) : Places B (j + 1) (D.put (.int .i64 (ld B j)) (.lit (.int .i64 j))) := by
  refine ⟨h.map.put _ _, fun k => ?_, fun z hz => ?_, fun i hi zd => ?_⟩
  · by_cases hk : k = ld B j
    · subst hk
      exact ⟨fun _ => ⟨j, by omega, rfl⟩, fun _ => has_put_same h.map (show WideAt.IsKeyLit (.int .i64 (ld B j)) from trivial) _⟩
    · rw [has_put_other (lit_ne (by omega)), h.has k]
      constructor
      · rintro ⟨i, hi, e⟩; exact ⟨i, by omega, e⟩
      · rintro ⟨i, hi, e⟩
        refine ⟨i, ?_, e⟩
        by_cases hij : i = j
        · subst hij; exact absurd e.symm hk
        · omega
  · by_cases hk : z = .int .i64 (ld B j)
    · exact ⟨_, hk⟩
    · rw [has_put_other hk] at hz
      exact h.only z hz
  · by_cases hij : i = j
    · subst hij
      exact atKey_put_same h.map (show WideAt.IsKeyLit (.int .i64 (ld B i)) from trivial) _ _
    · rw [atKey_put_other (lit_ne (fun e => hij (hR.inj (by omega) hj (by omega))))]
      exact h.val i (by omega) zd
end Go.Proofs.YtggigolkncckoaaGreat
namespace Go.Proofs.YtggigolkncckoaaGreat
open Go.RowKit
set_option maxHeartbeats 1600000 in
set_option maxRecDepth 8000 in
theorem transpose_any (p : Int) (A : Option Addr) (n c : Nat) (M : List (List Int)) (m : Nat) (w : World) (h0 : 0 < n) (hn : n ≤ 65536) (hm : m ≤ 65536) (ha : RdII w A n M) (hT : Tab p m M) :
    Calls Tryz.prog 212 #[.slice A n c] w fun e w' => ∃ A' c', e = .returned (.slice A' m c') ∧ MkII w w' A' m c' (transL M) := by
  have hML := ha.len
  have HTL : Hid (transL M = tab m fun k => tab n fun i => ent M i k) := Lib.hid (by unfold transL; rw [(hT.row (show 0 < M.length by omega)).1, hML])
  have HT := Lib.hid hT
  have HML := Lib.hid hML
  have hM0 : MkII w (w.alloc (.cells #[] 24)) (some ⟨w.heap.size, 0, none⟩) 0 0 [] := MkII.empty (Below.refl _ _)
  obtain ⟨g, o, rfl, hx0, A0, c0, hcx0, _, _⟩ := (ha.below hM0.b).at_ h0
  have hl0 : M[0].length = m := (HT.out M[0] (List.getElem_mem hx0)).1
  rw [hl0, Nat.add_zero] at hcx0
  clear hT hML hl0
  go_enter Tryz.func212, Tryz.ntmps212
  go_wp2
  clear hcx0
  obtain ⟨w1, hw1⟩ : ∃ W, W = w.alloc (.cells #[] 24) := ⟨_, rfl⟩
  rw [← hw1] at hM0 ⊢
  clear hw1
  go_loopw [3, 12] (fun out i wr => ∃ (k : Nat) (A' : Option Addr) (c' : Nat), k ≤ m ∧ i = .int .i64 k ∧ out = .slice A' k c' ∧ MkII w wr A' k c' (tab k fun k => tab n fun i => ent M i k)) (fun _ i _ => m - (intOf i).toNat)
  case atStart => exact ⟨0, _, _, by omega, rfl, rfl, by simpa [tab] using hM0⟩
  case round =>
    obtain ⟨k, A', c', hk, rfl, rfl, hM⟩ := hrel
    clear hM0
    obtain ⟨wo, rfl⟩ : ∃ W, W = wr := ⟨_, rfl⟩
    by_cases hlt : k < m
    · have hr0 := Mk.lit (E := 2) (Below.refl wo.heap.size wo) #[] (by simp)
      have hR0 : MkI wo (wo.alloc (.cells #[] 2)) (some ⟨wo.heap.size, 0, none⟩) 0 0 [] := by simpa [MkI, ints] using hr0
      have HM := Lib.hid hM
      clear hr0 hM
      go_wp2
      go_loopw [5, 18] (fun row i w2 => ∃ (j : Nat) (A2 : Option Addr) (c2 : Nat), j ≤ n ∧ i = .int .i64 j ∧ row = .slice A2 j c2 ∧ MkI wo w2 A2 j c2 (tab j fun i => ent M i k)) (fun _ i _ => n - (intOf i).toNat)
      case atStart => exact ⟨0, _, _, by omega, rfl, rfl, by simpa [tab] using hR0⟩
      case round =>
        obtain ⟨j, A2, c2, hj, rfl, rfl, hR⟩ := hrel
        clear hR0
        have HR := Lib.hid hR
        by_cases hlj : j < n
        · have hbb := HM.out.b.trans (hR.b.mono HM.out.b.size)
          obtain ⟨g', o', e', hxj, A3, c3, hcx, hr3, _⟩ := (ha.below hbb).at_ hlj
          injection e' with e'; injection e' with e1 e2 _
          subst e1; subst e2
          have hl3 : M[j].length = m := (HT.out M[j] (List.getElem_mem hxj)).1
          rw [hl3] at hcx hr3
          obtain ⟨g3, o3, rfl, hx3, hc3⟩ := hr3.int hlt
          have HV : Hid ((tab (j + 1) fun i => ent M i k) = (tab j fun i => ent M i k) ++ [M[j][k]]) := Lib.hid (by rw [tab_succ, ent_at hxj hx3])
          clear hR hr3 hl3 hbb ha
          go_wp2_with (at_builtin; refine wpList_app1 wo _ 24 2 _ _ Tryz.underlying24 info_i rfl (by omega) rfl _ _ rfl A2 j c2 _ _ HR.out (by omega) rfl rfl rfl ?_; intro A4 c4 w4 hM4 _ _)
          go_roundw
          case rel => exact ⟨j + 1, A4, c4, by omega, by go_num, rfl, by rw [HV.out]; simpa [MkI, ints] using hM4⟩
          case measure => simp [intOf]; omega
        · obtain rfl : j = n := by omega
          clear hR ha
          go_wp2_with (at_builtin; refine wpList_appRow w wo _ rfl _ _ rfl A' k c' _ A2 j c2 _ HM.out HR.out (by omega) rfl ?_ ?_; (go_simp); intro A4 c4 w4 hM4)
          go_roundw
          case rel => exact ⟨k + 1, A4, c4, by omega, by go_num, rfl, by rw [tab_succ]; exact hM4⟩
          case measure => simp [intOf]; omega
    · go_wp2
      go_ret
      obtain rfl : k = m := by omega
      exact ⟨_, _, rfl, by rw [HTL.out]; exact hM⟩
end Go.Proofs.YtggigolkncckoaaGreat
namespace Go.Proofs.YtggigolkncckoaaGreat
open Go.RowKit
/-- A vector with all numbers multiplied by the squares. -/
def weiL (P : Int) (sq v : List Int) : List Int := tab v.length fun i => v.getD i 0 * sq.getD i 0 % P
theorem weiL_len (P : Int) (sq v : List Int) : (weiL P sq v).length = v.length := tab_len _ _
theorem weiL_nums {P : Int} (hp : 0 < P) (sq v : List Int) : NumsL P (weiL P sq v) := NumsL.tab fun i _ => ⟨Int.emod_nonneg _ (by omega), Int.emod_lt_of_pos _ hp⟩
/-- The product of two vectors. -/
def pairL (P : Int) (sq v u : List Int) : Int := dotL P (weiL P sq v) u
theorem pairL_sum {P : Int} {sq v u : List Int} {n : Nat} (hv : v.length = n) : pairL P sq v u = (sumTo n fun i => v.getD i 0 * u.getD i 0 % P * sq.getD i 0) % P := by
  unfold pairL dotL
  rw [weiL_len, hv]
  refine sumTo_mod P fun i hi => ?_
  unfold weiL
  rw [tab_getD (by omega), Int.mul_emod, Int.emod_emod_of_dvd _ (Int.dvd_refl P), ← Int.mul_emod, Int.mul_emod (v.getD i 0 * u.getD i 0 % P), Int.emod_emod_of_dvd _ (Int.dvd_refl P), ← Int.mul_emod, Int.mul_assoc, Int.mul_comm (sq.getD i 0), ← Int.mul_assoc]
set_option maxHeartbeats 3200000 in
set_option maxRecDepth 8000 in
theorem weighted_any (P : Int) (A : Option Addr) (n c : Nat) (sq : List Int) (X : Option Addr) (cx : Nat) (v : List Int) (w : World) (hp : 2 ≤ P) (hp2 : P ≤ 13) (hn : n ≤ 6) (ha : Rd w A n (ints sq)) (hs : NumsL P sq) (hx : Rd w X n (ints v)) (hv : NumsL P v) :
    Calls Tryz.prog 322 #[.agg #[.int .i64 P, .slice A n c], .slice X n cx] w fun e w' => ∃ A' c', e = .returned (.slice A' n c') ∧ MkI w w' A' n c' (weiL P sq v) := by
  have HL : Hid (weiL P sq v = tab n fun i => v.getD i 0 * sq.getD i 0 % P) := Lib.hid (by unfold weiL; rw [hx.lenI])
  have hB0 : Below w.heap.size w (w.alloc (.cells #[.int .i64 P, .slice A n c] 26)) := (Below.refl _ _).alloc (Nat.le_refl _) _
  have k0 : Blk (w.alloc (.cells #[.int .i64 P, .slice A n c] 26)) w.heap.size 26 #[.int .i64 P, .slice A n c] := Blk.new _ _ _
  have k1 := k0.alloc (.cells #[] 2)
  have hM0 := Mk.lit (E := 2) hB0 #[] (by simp)
  have hM1 : MkI w ((w.alloc (.cells #[.int .i64 P, .slice A n c] 26)).alloc (.cells #[] 2)) (some ⟨w.heap.size + 1, 0, none⟩) 0 0 (tab 0 fun i => v.getD i 0 * sq.getD i 0 % P) := by
    simpa [MkI, ints, tab] using hM0
  clear k0 hB0 hM0
  go_enter Tryz.func322, Tryz.ntmps322
  go_wp2
  go_loopw [5, 6, 7, 11] (fun out _ _ i wr => ∃ (j : Nat) (A' : Option Addr) (c' : Nat), j ≤ n ∧ i = .int .i64 j ∧ out = .slice A' j c' ∧ MkI w wr A' j c' (tab j fun i => v.getD i 0 * sq.getD i 0 % P) ∧ Blk wr w.heap.size 26 #[.int .i64 P, .slice A n c]) (fun _ _ _ i _ => n - (intOf i).toNat)
  case atStart => exact ⟨0, _, _, by omega, rfl, rfl, hM1, k1⟩
  case round =>
    obtain ⟨j, A', c', hj, rfl, rfl, hM, k2⟩ := hrel
    clear hM1 k1
    obtain ⟨q0, q1⟩ := k2.two
    by_cases hlt : j < n
    · obtain ⟨g, o, rfl, hxj, hcx⟩ := (hx.below hM.b).int hlt
      obtain ⟨g2, o2, rfl, hyj, hcy⟩ := (ha.below hM.b).int hlt
      obtain ⟨x1, x2⟩ := hv _ (List.getElem_mem hxj)
      obtain ⟨y1, y2⟩ := hs _ (List.getElem_mem hyj)
      have HV : Hid ((tab (j + 1) fun i => v.getD i 0 * sq.getD i 0 % P) = (tab j fun i => v.getD i 0 * sq.getD i 0 % P) ++ [v[j] * sq[j] % P]) := Lib.hid (by rw [tab_succ, getD_of_lt 0 hxj, getD_of_lt 0 hyj])
      obtain ⟨xa, hxe⟩ : ∃ xa, xa = v[j] := ⟨_, rfl⟩
      obtain ⟨ya, hye⟩ : ∃ ya, ya = sq[j] := ⟨_, rfl⟩
      rw [← hxe] at hcx x1 x2 HV
      rw [← hye] at hcy y1 y2 HV
      obtain ⟨m1, m2⟩ := mul_small x1 (show xa ≤ 13 by omega) y1 (show ya ≤ 13 by omega)
      have W1 := i64_fit (xa * ya) (by omega) (by omega)
      have i1 : (0 : Int) ≤ (j : Int) := by omega
      have i2 : (j : Int) < (n : Int) := by omega
      have HM := Lib.hid hM
      clear hxe hye hxj hyj hM
      go_wp2
      refine wp_obs 12 [[], [], [1], [], [], [4], [], [4, 5, 6], [4, 5, 6, 7], [3, 4, 5, 6, 7, 8], [1, 2, 3, 4, 5, 6, 7, 8, 9], [1, 2, 3, 4, 5, 6, 7, 8, 9, 10], [0, 1, 2, 3, 4, 5, 6, 7, 8, 9, 10, 11], [0, 1, 2, 3, 4, 5, 6, 7, 8, 9, 10, 11, 12]] [VIs (.slice A' j c'), VIs (.agg #[.int .i64 P, .slice (some ⟨g2, o2, none⟩) n c]), VIs (.int .i64 (P)), VIs (.int .i64 (xa)), VIs (.pointer (some ⟨w.heap.size, 1, none⟩)), VIs (.slice (some ⟨g2, o2, none⟩) n c), VIs (.int .i64 (j)), VIs (.pointer (some ⟨g2, o2 + j, none⟩)), VIs (.int .i64 (ya)), VIs (.int .i64 (xa * ya)), VIs (.int .i64 (xa * ya % P)), VBs 2 #[.int .i64 (xa * ya % P)]] (fun w' => w'.cell? ⟨g2, o2 + j, none⟩ = some (.int .i64 ya) ∧ Blk w' w.heap.size 26 #[.int .i64 P, .slice (some ⟨g2, o2, none⟩) n c] ∧ Below wr.heap.size wr w') (by kernel_rfl) (by kernel_rfl) (fun _ _ h hb => ⟨(hb.cell (World.block_lt_of_cell? _ _ h.1)).trans h.1, h.2.1.below hb h.2.1.lt, h.2.2.trans (hb.mono h.2.2.size)⟩) (⟨hcy, k2.drew, (Below.refl _ _).drew⟩) (fun x => ?_)
      refine obs_step (Eq.trans (by simp only [List.getElem?_toArray, List.getElem?_cons_zero]; exact rfl) rfl) rfl (fun w' hS hV K hK => ?_) ?_
      · have q2 := hS.1; obtain ⟨q0, q1⟩ := hS.2.1.two
        go_simp
        exact hK.out _ _ _ rfl rfl rfl (Below.refl _ _)
      simp only [List.setIfInBounds_toArray, List.set_cons_zero, List.set_cons_succ]
      refine obs_step (Eq.trans (by simp only [List.getElem?_toArray, List.getElem?_cons_succ, List.getElem?_cons_zero]; exact rfl) rfl) rfl (fun w' hS hV K hK => ?_) ?_
      · have q2 := hS.1; obtain ⟨q0, q1⟩ := hS.2.1.two
        go_simp
        exact hK.out _ _ _ rfl rfl rfl (Below.refl _ _)
      simp only [List.setIfInBounds_toArray, List.set_cons_zero, List.set_cons_succ]
      refine obs_step (Eq.trans (by simp only [List.getElem?_toArray, List.getElem?_cons_succ, List.getElem?_cons_zero]; exact rfl) rfl) rfl (fun w' hS hV K hK => ?_) ?_
      · have e1 : x 1 = (.agg #[.int .i64 P, .slice (some ⟨g2, o2, none⟩) n c]) := hV 1 (by decide)
        have q2 := hS.1; obtain ⟨q0, q1⟩ := hS.2.1.two
        go_simp
        refine (field_any _ _ _ _ _).mono ?_
        rintro e v1 ⟨rfl, hb⟩
        exact hK.out _ _ _ rfl rfl rfl hb
      simp only [List.setIfInBounds_toArray, List.set_cons_zero, List.set_cons_succ]
      refine obs_step (Eq.trans (by simp only [List.getElem?_toArray, List.getElem?_cons_succ, List.getElem?_cons_zero]; exact rfl) rfl) rfl (fun w' hS hV K hK => ?_) ?_
      · have q2 := hS.1; obtain ⟨q0, q1⟩ := hS.2.1.two
        go_simp
        exact hK.out _ _ _ rfl rfl rfl (Below.refl _ _)
      simp only [List.setIfInBounds_toArray, List.set_cons_zero, List.set_cons_succ]
      refine obs_step (Eq.trans (by simp only [List.getElem?_toArray, List.getElem?_cons_succ, List.getElem?_cons_zero]; exact rfl) rfl) rfl (fun w' hS hV K hK => ?_) ?_
      · have q2 := hS.1; obtain ⟨q0, q1⟩ := hS.2.1.two
        go_simp
        exact hK.out _ _ _ rfl rfl rfl (Below.refl _ _)
      simp only [List.setIfInBounds_toArray, List.set_cons_zero, List.set_cons_succ]
      refine obs_step (Eq.trans (by simp only [List.getElem?_toArray, List.getElem?_cons_succ, List.getElem?_cons_zero]; exact rfl) rfl) rfl (fun w' hS hV K hK => ?_) ?_
      · have e4 : x 4 = (.pointer (some ⟨w.heap.size, 1, none⟩)) := hV 4 (by decide)
        have q2 := hS.1; obtain ⟨q0, q1⟩ := hS.2.1.two
        go_simp
        exact hK.out _ _ _ rfl rfl rfl (Below.refl _ _)
      simp only [List.setIfInBounds_toArray, List.set_cons_zero, List.set_cons_succ]
      refine obs_step (Eq.trans (by simp only [List.getElem?_toArray, List.getElem?_cons_succ, List.getElem?_cons_zero]; exact rfl) rfl) rfl (fun w' hS hV K hK => ?_) ?_
      · have q2 := hS.1; obtain ⟨q0, q1⟩ := hS.2.1.two
        go_simp
        exact hK.out _ _ _ rfl rfl rfl (Below.refl _ _)
      simp only [List.setIfInBounds_toArray, List.set_cons_zero, List.set_cons_succ]
      refine obs_step (Eq.trans (by simp only [List.getElem?_toArray, List.getElem?_cons_succ, List.getElem?_cons_zero]; exact rfl) rfl) rfl (fun w' hS hV K hK => ?_) ?_
      · have e4 : x 4 = (.pointer (some ⟨w.heap.size, 1, none⟩)) := hV 4 (by decide)
        have e5 : x 5 = (.slice (some ⟨g2, o2, none⟩) n c) := hV 5 (by decide)
        have e6 : x 6 = (.int .i64 (j)) := hV 6 (by decide)
        have q2 := hS.1; obtain ⟨q0, q1⟩ := hS.2.1.two
        go_simp
        exact hK.out _ _ _ rfl rfl rfl (Below.refl _ _)
      simp only [List.setIfInBounds_toArray, List.set_cons_zero, List.set_cons_succ]
      refine obs_step (Eq.trans (by simp only [List.getElem?_toArray, List.getElem?_cons_succ, List.getElem?_cons_zero]; exact rfl) rfl) rfl (fun w' hS hV K hK => ?_) ?_
      · have e4 : x 4 = (.pointer (some ⟨w.heap.size, 1, none⟩)) := hV 4 (by decide)
        have e5 : x 5 = (.slice (some ⟨g2, o2, none⟩) n c) := hV 5 (by decide)
        have e6 : x 6 = (.int .i64 (j)) := hV 6 (by decide)
        have e7 : x 7 = (.pointer (some ⟨g2, o2 + j, none⟩)) := hV 7 (by decide)
        have q2 := hS.1; obtain ⟨q0, q1⟩ := hS.2.1.two
        go_simp
        exact hK.out _ _ _ rfl rfl rfl (Below.refl _ _)
      simp only [List.setIfInBounds_toArray, List.set_cons_zero, List.set_cons_succ]
      refine obs_step (Eq.trans (by simp only [List.getElem?_toArray, List.getElem?_cons_succ, List.getElem?_cons_zero]; exact rfl) rfl) rfl (fun w' hS hV K hK => ?_) ?_
      · have e3 : x 3 = (.int .i64 (xa)) := hV 3 (by decide)
        have e4 : x 4 = (.pointer (some ⟨w.heap.size, 1, none⟩)) := hV 4 (by decide)
        have e5 : x 5 = (.slice (some ⟨g2, o2, none⟩) n c) := hV 5 (by decide)
        have e6 : x 6 = (.int .i64 (j)) := hV 6 (by decide)
        have e7 : x 7 = (.pointer (some ⟨g2, o2 + j, none⟩)) := hV 7 (by decide)
        have e8 : x 8 = (.int .i64 (ya)) := hV 8 (by decide)
        have q2 := hS.1; obtain ⟨q0, q1⟩ := hS.2.1.two
        go_simp
        exact hK.out _ _ _ rfl rfl rfl (Below.refl _ _)
      simp only [List.setIfInBounds_toArray, List.set_cons_zero, List.set_cons_succ]
      refine obs_step (Eq.trans (by simp only [List.getElem?_toArray, List.getElem?_cons_succ, List.getElem?_cons_zero]; exact rfl) rfl) rfl (fun w' hS hV K hK => ?_) ?_
      · have e1 : x 1 = (.agg #[.int .i64 P, .slice (some ⟨g2, o2, none⟩) n c]) := hV 1 (by decide)
        have e2 : x 2 = (.int .i64 (P)) := hV 2 (by decide)
        have e3 : x 3 = (.int .i64 (xa)) := hV 3 (by decide)
        have e4 : x 4 = (.pointer (some ⟨w.heap.size, 1, none⟩)) := hV 4 (by decide)
        have e5 : x 5 = (.slice (some ⟨g2, o2, none⟩) n c) := hV 5 (by decide)
        have e6 : x 6 = (.int .i64 (j)) := hV 6 (by decide)
        have e7 : x 7 = (.pointer (some ⟨g2, o2 + j, none⟩)) := hV 7 (by decide)
        have e8 : x 8 = (.int .i64 (ya)) := hV 8 (by decide)
        have e9 : x 9 = (.int .i64 (xa * ya)) := hV 9 (by decide)
        have q2 := hS.1; obtain ⟨q0, q1⟩ := hS.2.1.two
        go_simp
        refine (num_any P (xa * ya) _ (by omega) hp2 (by omega) (by omega)).mono ?_
        rintro e v1 ⟨rfl, rfl⟩
        exact hK.out _ _ _ rfl rfl rfl (Below.refl _ _)
      simp only [List.setIfInBounds_toArray, List.set_cons_zero, List.set_cons_succ]
      refine obs_step (Eq.trans (by simp only [List.getElem?_toArray, List.getElem?_cons_succ, List.getElem?_cons_zero]; exact rfl) rfl) rfl (fun w' hS hV K hK => ?_) ?_
      · have e1 : x 1 = (.agg #[.int .i64 P, .slice (some ⟨g2, o2, none⟩) n c]) := hV 1 (by decide)
        have e2 : x 2 = (.int .i64 (P)) := hV 2 (by decide)
        have e3 : x 3 = (.int .i64 (xa)) := hV 3 (by decide)
        have e4 : x 4 = (.pointer (some ⟨w.heap.size, 1, none⟩)) := hV 4 (by decide)
        have e5 : x 5 = (.slice (some ⟨g2, o2, none⟩) n c) := hV 5 (by decide)
        have e6 : x 6 = (.int .i64 (j)) := hV 6 (by decide)
        have e7 : x 7 = (.pointer (some ⟨g2, o2 + j, none⟩)) := hV 7 (by decide)
        have e8 : x 8 = (.int .i64 (ya)) := hV 8 (by decide)
        have e9 : x 9 = (.int .i64 (xa * ya)) := hV 9 (by decide)
        have e10 : x 10 = (.int .i64 (xa * ya % P)) := hV 10 (by decide)
        have q2 := hS.1; obtain ⟨q0, q1⟩ := hS.2.1.two
        go_simp
        exact hK.out _ _ _ rfl rfl ⟨_, rfl, Blk.new _ _ _⟩ ((Below.refl _ _).alloc (Nat.le_refl _) _)
      simp only [List.setIfInBounds_toArray, List.set_cons_zero, List.set_cons_succ]
      refine fun w' hS hV => ?_
      have e0 : x 0 = (.slice A' j c') := hV 0 (by decide)
      have e1 : x 1 = (.agg #[.int .i64 P, .slice (some ⟨g2, o2, none⟩) n c]) := hV 1 (by decide)
      have e2 : x 2 = (.int .i64 (P)) := hV 2 (by decide)
      have e3 : x 3 = (.int .i64 (xa)) := hV 3 (by decide)
      have e4 : x 4 = (.pointer (some ⟨w.heap.size, 1, none⟩)) := hV 4 (by decide)
      have e5 : x 5 = (.slice (some ⟨g2, o2, none⟩) n c) := hV 5 (by decide)
      have e6 : x 6 = (.int .i64 (j)) := hV 6 (by decide)
      have e7 : x 7 = (.pointer (some ⟨g2, o2 + j, none⟩)) := hV 7 (by decide)
      have e8 : x 8 = (.int .i64 (ya)) := hV 8 (by decide)
      have e9 : x 9 = (.int .i64 (xa * ya)) := hV 9 (by decide)
      have e10 : x 10 = (.int .i64 (xa * ya % P)) := hV 10 (by decide)
      obtain ⟨b11, e11, h11⟩ := hV 11 (by decide)
      simp only [e0, e1, e2, e3, e4, e5, e6, e7, e8, e9, e10, e11]
      clear e0 e1 e2 e3 e4 e5 e6 e7 e8 e9 e10 e11
      have s1 := HM.out.below hS.2.2
      have k3 := hS.2.1
      refine any_plain (j := 12) (by kernel_rfl) (Eq.trans (by simp only [List.getElem?_toArray, List.getElem?_cons_succ, List.getElem?_cons_zero]; exact rfl) rfl) rfl (fun K hK => ?_)
      refine wp_app1 w w' 24 2 _ _ Tryz.underlying24 info_i rfl (by omega) _ _ rfl A' j c' _ _ s1 (by omega) rfl _ h11 (by rfl) (by rfl) ?_
      intro A2 c2 w2 hM2 hgr
      refine hK.out _ _ ?_
      simp only [Act.put, List.setIfInBounds_toArray, List.set_cons_zero, List.set_cons_succ]
      refine any_one (j := 13) (by kernel_rfl) (Eq.trans (by simp only [List.getElem?_toArray, List.getElem?_cons_succ, List.getElem?_cons_zero]; exact rfl) rfl) (fun K hK => ?_)
      go_simp
      refine hK.out _ _ (wpAny_done (by kernel_rfl) ?_ _)
      have k4 := k3.grown hgr (s1.2.ne_blk k3 (by decide))
      clear W1 s1 k3 hgr hS
      go_wp2
      go_roundw
      case rel => exact ⟨j + 1, A2, c2, by omega, by go_num, rfl, by rw [HV.out]; simpa [MkI, ints] using hM2, k4⟩
      case measure => simp [intOf]; omega
    · obtain rfl : j = n := by omega
      go_wp2
      go_ret
      exact ⟨_, _, rfl, by rw [HL.out]; exact hM⟩
set_option maxHeartbeats 1600000 in
set_option maxRecDepth 8000 in
theorem pair_any (P : Int) (A : Option Addr) (n c : Nat) (sq : List Int) (X : Option Addr) (cx : Nat) (v : List Int) (Y : Option Addr) (cy : Nat) (u : List Int) (w : World) (hp : 2 ≤ P) (hp2 : P ≤ 13) (hn : n ≤ 6) (ha : Rd w A n (ints sq)) (hs : NumsL P sq) (hx : Rd w X n (ints v)) (hv : NumsL P v) (hy : Rd w Y n (ints u)) (hu : NumsL P u) :
    Calls Tryz.prog 209 #[.agg #[.int .i64 P, .slice A n c], .slice X n cx, .slice Y n cy] w fun e w' => e = .returned (.int .i64 (pairL P sq v u)) ∧ Below w.heap.size w w' := by
  have HPL : Hid (pairL P sq v u = dotL P (weiL P sq v) u) := Lib.hid rfl
  have hB0 : Below w.heap.size w (w.alloc (.cells #[.int .i64 P, .slice A n c] 26)) := (Below.refl _ _).alloc (Nat.le_refl _) _
  have k0 : Blk (w.alloc (.cells #[.int .i64 P, .slice A n c] 26)) w.heap.size 26 #[.int .i64 P, .slice A n c] := Blk.new _ _ _
  go_enter Tryz.func209, Tryz.ntmps209
  go_wp2
  refine wp_obs 8 [[], [0], [], [], [2, 3], [], [0, 1, 2, 3, 4, 5], [0, 1, 2, 3, 4, 5, 6]] [VIs (.agg #[.int .i64 P, .slice A n c]), VIs (.int .i64 (P)), VIs (.agg #[.int .i64 P, .slice A n c]), VIs (.slice X n cx), VSl w n (weiL P sq v), VIs (.slice Y n cy), VIs (.int .i64 (pairL P sq v u)), VIs (.int .i64 (pairL P sq v u))] (fun w' => Blk w' w.heap.size 26 #[.int .i64 P, .slice A n c] ∧ Below w.heap.size w w') (by kernel_rfl) (by kernel_rfl) (fun _ _ h hb => ⟨h.1.below hb h.1.lt, h.2.trans (hb.mono h.2.size)⟩) (⟨k0.drew, hB0.drew⟩) (fun x => ?_)
  refine obs_step (Eq.trans (by simp only [List.getElem?_toArray, List.getElem?_cons_zero]; exact rfl) rfl) rfl (fun w' hS hV K hK => ?_) ?_
  · obtain ⟨q0, q1⟩ := hS.1.two
    go_simp
    exact hK.out _ _ _ rfl rfl rfl (Below.refl _ _)
  simp only [List.setIfInBounds_toArray, List.set_cons_zero, List.set_cons_succ]
  refine obs_step (Eq.trans (by simp only [List.getElem?_toArray, List.getElem?_cons_succ, List.getElem?_cons_zero]; exact rfl) rfl) rfl (fun w' hS hV K hK => ?_) ?_
  · have e0 : x 0 = (.agg #[.int .i64 P, .slice A n c]) := hV 0 (by decide)
    obtain ⟨q0, q1⟩ := hS.1.two
    go_simp
    refine (field_any _ _ _ _ _).mono ?_
    rintro e v1 ⟨rfl, hb⟩
    exact hK.out _ _ _ rfl rfl rfl hb
  simp only [List.setIfInBounds_toArray, List.set_cons_zero, List.set_cons_succ]
  refine obs_step (Eq.trans (by simp only [List.getElem?_toArray, List.getElem?_cons_succ, List.getElem?_cons_zero]; exact rfl) rfl) rfl (fun w' hS hV K hK => ?_) ?_
  · obtain ⟨q0, q1⟩ := hS.1.two
    go_simp
    exact hK.out _ _ _ rfl rfl rfl (Below.refl _ _)
  simp only [List.setIfInBounds_toArray, List.set_cons_zero, List.set_cons_succ]
  refine obs_step (Eq.trans (by simp only [List.getElem?_toArray, List.getElem?_cons_succ, List.getElem?_cons_zero]; exact rfl) rfl) rfl (fun w' hS hV K hK => ?_) ?_
  · obtain ⟨q0, q1⟩ := hS.1.two
    go_simp
    exact hK.out _ _ _ rfl rfl rfl (Below.refl _ _)
  simp only [List.setIfInBounds_toArray, List.set_cons_zero, List.set_cons_succ]
  refine obs_step (Eq.trans (by simp only [List.getElem?_toArray, List.getElem?_cons_succ, List.getElem?_cons_zero]; exact rfl) rfl) rfl (fun w' hS hV K hK => ?_) ?_
  · have e2 : x 2 = (.agg #[.int .i64 P, .slice A n c]) := hV 2 (by decide)
    have e3 : x 3 = (.slice X n cx) := hV 3 (by decide)
    obtain ⟨q0, q1⟩ := hS.1.two
    go_simp
    refine (weighted_any P A n c sq X cx v _ hp hp2 hn (ha.below hS.2) hs (hx.below hS.2) hv).mono ?_
    rintro e v1 ⟨A2, c2, rfl, hM⟩
    exact hK.out _ _ _ rfl rfl ⟨_, _, rfl, hM.after hS.2⟩ hM.b
  simp only [List.setIfInBounds_toArray, List.set_cons_zero, List.set_cons_succ]
  refine obs_step (Eq.trans (by simp only [List.getElem?_toArray, List.getElem?_cons_succ, List.getElem?_cons_zero]; exact rfl) rfl) rfl (fun w' hS hV K hK => ?_) ?_
  · obtain ⟨q0, q1⟩ := hS.1.two
    go_simp
    exact hK.out _ _ _ rfl rfl rfl (Below.refl _ _)
  simp only [List.setIfInBounds_toArray, List.set_cons_zero, List.set_cons_succ]
  refine obs_step (Eq.trans (by simp only [List.getElem?_toArray, List.getElem?_cons_succ, List.getElem?_cons_zero]; exact rfl) rfl) rfl (fun w' hS hV K hK => ?_) ?_
  · have e0 : x 0 = (.agg #[.int .i64 P, .slice A n c]) := hV 0 (by decide)
    have e1 : x 1 = (.int .i64 (P)) := hV 1 (by decide)
    have e2 : x 2 = (.agg #[.int .i64 P, .slice A n c]) := hV 2 (by decide)
    have e3 : x 3 = (.slice X n cx) := hV 3 (by decide)
    obtain ⟨A4, c4, e4, h4⟩ := hV 4 (by decide)
    have e5 : x 5 = (.slice Y n cy) := hV 5 (by decide)
    obtain ⟨q0, q1⟩ := hS.1.two
    go_simp
    refine (dot_any P _ n _ _ n _ (weiL P sq v) u _ hp hp2 (by omega) (Nat.le_refl _) h4.rd (weiL_nums (by omega) _ _) (hy.below hS.2) hu).mono ?_
    rw [← HPL.out]
    rintro e v1 ⟨rfl, rfl⟩
    exact hK.out _ _ _ rfl rfl rfl (Below.refl _ _)
  simp only [List.setIfInBounds_toArray, List.set_cons_zero, List.set_cons_succ]
  refine obs_step (Eq.trans (by simp only [List.getElem?_toArray, List.getElem?_cons_succ, List.getElem?_cons_zero]; exact rfl) rfl) rfl (fun w' hS hV K hK => ?_) ?_
  · have e0 : x 0 = (.agg #[.int .i64 P, .slice A n c]) := hV 0 (by decide)
    have e1 : x 1 = (.int .i64 (P)) := hV 1 (by decide)
    have e2 : x 2 = (.agg #[.int .i64 P, .slice A n c]) := hV 2 (by decide)
    have e3 : x 3 = (.slice X n cx) := hV 3 (by decide)
    obtain ⟨A4, c4, e4, h4⟩ := hV 4 (by decide)
    have e5 : x 5 = (.slice Y n cy) := hV 5 (by decide)
    have e6 : x 6 = (.int .i64 (pairL P sq v u)) := hV 6 (by decide)
    obtain ⟨q0, q1⟩ := hS.1.two
    go_simp
    exact hK.out _ _ _ rfl rfl rfl (Below.refl _ _)
  simp only [List.setIfInBounds_toArray, List.set_cons_zero, List.set_cons_succ]
  refine fun w' hS hV => ?_
  have e0 : x 0 = (.agg #[.int .i64 P, .slice A n c]) := hV 0 (by decide)
  have e1 : x 1 = (.int .i64 (P)) := hV 1 (by decide)
  have e2 : x 2 = (.agg #[.int .i64 P, .slice A n c]) := hV 2 (by decide)
  have e3 : x 3 = (.slice X n cx) := hV 3 (by decide)
  obtain ⟨A4, c4, e4, h4⟩ := hV 4 (by decide)
  have e5 : x 5 = (.slice Y n cy) := hV 5 (by decide)
  have e6 : x 6 = (.int .i64 (pairL P sq v u)) := hV 6 (by decide)
  have e7 : x 7 = (.int .i64 (pairL P sq v u)) := hV 7 (by decide)
  simp only [e0, e1, e2, e3, e4, e5, e6, e7]
  clear e0 e1 e2 e3 e4 e5 e6 e7
  refine wpAny_done (by kernel_rfl) ?_ _
  go_wp2
  go_ret
  exact ⟨rfl, hS.2⟩
end Go.Proofs.YtggigolkncckoaaGreat
namespace Go.Proofs.YtggigolkncckoaaGreat
theorem cg_add {p a b c d : Int} (h : a % p = b % p) (h' : c % p = d % p) : (a + c) % p = (b + d) % p := by rw [Int.add_emod, h, h', ← Int.add_emod]
theorem cg_mul {p a b c d : Int} (h : a % p = b % p) (h' : c % p = d % p) : a * c % p = b * d % p := by rw [Int.mul_emod, h, h', ← Int.mul_emod]
theorem getD_app_left {α : Type} (d : α) {xs : List α} (ys : List α) {i : Nat} (h : i < xs.length) : (xs ++ ys).getD i d = xs.getD i d := by
  rw [getD_of_lt d h, getD_of_lt d (by rw [List.length_append]; omega), List.getElem_append_left h]
theorem getD_app_right {α : Type} (d : α) (xs ys : List α) (i : Nat) : (xs ++ ys).getD (xs.length + i) d = ys.getD i d := by
  by_cases h : i < ys.length
  · rw [getD_of_lt d h, getD_of_lt d (by rw [List.length_append]; omega), List.getElem_append_right (by omega)]
    congr 1; omega
  · rw [getD_of_ge d (show ys.length ≤ i by omega), getD_of_ge d (show (xs ++ ys).length ≤ xs.length + i by rw [List.length_append]; omega)]
/-- A sum of multiples of the rows. -/
def Sp (p : Int) (n : Nat) (m : List (List Int)) (v : Nat → Int) : Prop := ∃ c : Nat → Int, ∀ q, q < n → v q % p = (sumTo m.length fun i => c i * ent m i q) % p
theorem Sp.congr {p : Int} {n : Nat} {m : List (List Int)} {v u : Nat → Int} (h : Sp p n m v) (e : ∀ q, q < n → v q % p = u q % p) : Sp p n m u := by
  obtain ⟨c, hc⟩ := h
  exact ⟨c, fun q hq => (e q hq).symm.trans (hc q hq)⟩
theorem Sp.zero (p : Int) (n : Nat) (m : List (List Int)) : Sp p n m fun _ => 0 := ⟨fun _ => 0, fun q _ => by rw [sumTo_zero fun i _ => Int.zero_mul _]⟩
theorem Sp.add {p : Int} {n : Nat} {m : List (List Int)} {v u : Nat → Int} (h : Sp p n m v) (h' : Sp p n m u) : Sp p n m fun q => v q + u q := by
  obtain ⟨c, hc⟩ := h
  obtain ⟨d, hd⟩ := h'
  refine ⟨fun i => c i + d i, fun q hq => ?_⟩
  rw [sumTo_congr (g := fun i => c i * ent m i q + d i * ent m i q) fun i _ => Int.add_mul _ _ _, sumTo_add]
  exact cg_add (hc q hq) (hd q hq)
theorem Sp.mul {p : Int} {n : Nat} {m : List (List Int)} {v : Nat → Int} (h : Sp p n m v) (k : Int) : Sp p n m fun q => k * v q := by
  obtain ⟨c, hc⟩ := h
  refine ⟨fun i => k * c i, fun q hq => ?_⟩
  rw [sumTo_congr (g := fun i => k * (c i * ent m i q)) fun i _ => Int.mul_assoc _ _ _, sumTo_mul]
  exact cg_mul rfl (hc q hq)
theorem Sp.row {p : Int} {n : Nat} {m : List (List Int)} {i : Nat} (hi : i < m.length) : Sp p n m fun q => ent m i q := by
  refine ⟨fun j => if j = i then 1 else 0, fun q _ => ?_⟩
  rw [sumTo_one (f := fun j => (if j = i then 1 else 0) * ent m j q) i hi (fun j _ hj => by simp only [if_neg hj, Int.zero_mul])]
  simp
theorem Sp.mem {p : Int} {n : Nat} {m : List (List Int)} {x : List Int} (hx : x ∈ m) : Sp p n m fun q => x.getD q 0 := by
  obtain ⟨i, hi, rfl⟩ := List.getElem_of_mem hx
  refine (Sp.row hi).congr fun q _ => ?_
  unfold ent; rw [getD_of_lt [] hi]
theorem Sp.sum {p : Int} {n : Nat} {m : List (List Int)} (k : Nat) {f : Nat → Nat → Int} (h : ∀ i, i < k → Sp p n m (f i)) : Sp p n m fun q => sumTo k fun i => f i q := by
  induction k with
  | zero => exact Sp.zero p n m
  | succ k ih => exact (ih fun i hi => h i (by omega)).add (h k (by omega))
theorem Sp.nil {p : Int} {n : Nat} {v : Nat → Int} (h : Sp p n [] v) : ∀ q, q < n → v q % p = 0 := fun q hq => by
  obtain ⟨c, hc⟩ := h
  rw [hc q hq]; simp [sumTo]
/-- All rows of the first are made of those of the second. -/
def InSp (p : Int) (n : Nat) (m m' : List (List Int)) : Prop := ∀ i, i < m.length → Sp p n m' fun q => ent m i q
theorem InSp.sp {p : Int} {n : Nat} {m m' : List (List Int)} (h : InSp p n m m') {v : Nat → Int} (hv : Sp p n m v) : Sp p n m' v := by
  obtain ⟨c, hc⟩ := hv
  exact (Sp.sum m.length fun i hi => (h i hi).mul (c i)).congr fun q hq => (hc q hq).symm
theorem InSp.refl (p : Int) (n : Nat) (m : List (List Int)) : InSp p n m m := fun _ hi => Sp.row hi
theorem InSp.trans {p : Int} {n : Nat} {m m' m2 : List (List Int)} (h : InSp p n m m') (h' : InSp p n m' m2) : InSp p n m m2 := fun i hi => h'.sp (h i hi)
theorem InSp.of_mem {p : Int} {n : Nat} {m m' : List (List Int)} (h : ∀ x ∈ m, Sp p n m' fun q => x.getD q 0) : InSp p n m m' := fun i hi =>
  (h _ (List.getElem_mem hi)).congr fun q _ => by unfold ent; rw [getD_of_lt [] hi]
theorem InSp.append {p : Int} {n : Nat} {m1 m2 m' : List (List Int)} (h1 : InSp p n m1 m') (h2 : InSp p n m2 m') : InSp p n (m1 ++ m2) m' := InSp.of_mem fun x hx => by
  rcases List.mem_append.1 hx with h | h
  · exact h1.sp (Sp.mem h)
  · exact h2.sp (Sp.mem h)
theorem Sp.append {p : Int} {n : Nat} {m m' : List (List Int)} {v : Nat → Int} (h : Sp p n (m ++ m') v) : ∃ u u', Sp p n m u ∧ Sp p n m' u' ∧ ∀ q, q < n → v q % p = (u q + u' q) % p := by
  obtain ⟨c, hc⟩ := h
  refine ⟨fun q => sumTo m.length fun i => c i * ent m i q, fun q => sumTo m'.length fun i => c (m.length + i) * ent m' i q, ⟨c, fun _ _ => rfl⟩, ⟨fun i => c (m.length + i), fun _ _ => rfl⟩, fun q hq => ?_⟩
  rw [hc q hq, List.length_append]
  congr 1
  have e1 : ∀ i, i < m.length → ent (m ++ m') i q = ent m i q := fun i hi => by unfold ent; rw [getD_app_left [] _ hi]
  have e2 : ∀ k, sumTo (m.length + k) (fun i => c i * ent (m ++ m') i q) = sumTo m.length (fun i => c i * ent m i q) + sumTo k (fun i => c (m.length + i) * ent m' i q) := by
    intro k
    induction k with
    | zero => exact (sumTo_congr fun i hi => by rw [e1 i hi]).trans (by simp [sumTo])
    | succ k ih =>
      rw [← Nat.add_assoc, sumTo_succ, ih, sumTo_succ]
      have : ent (m ++ m') (m.length + k) q = ent m' k q := by unfold ent; rw [getD_app_right]
      rw [this]; omega
  exact e2 _
/-- Orthogonal to all rows. -/
def Orth (p : Int) (n : Nat) (m : List (List Int)) (v : Nat → Int) : Prop := ∀ i, i < m.length → (sumTo n fun q => ent m i q * v q) % p = 0
theorem Orth.sp {p : Int} {n : Nat} {m : List (List Int)} {v : Nat → Int} (h : Orth p n m v) {u : Nat → Int} (hu : Sp p n m u) : (sumTo n fun q => u q * v q) % p = 0 := by
  obtain ⟨c, hc⟩ := hu
  have e1 : (sumTo n fun q => u q * v q) % p = (sumTo n fun q => sumTo m.length fun i => c i * (ent m i q * v q)) % p := by
    refine sumTo_mod p fun q hq => ?_
    rw [sumTo_congr (f := fun i => c i * (ent m i q * v q)) (g := fun i => v q * (c i * ent m i q)) (fun i _ => by rw [Int.mul_comm (v q), Int.mul_assoc]), sumTo_mul, Int.mul_comm (v q)]
    exact cg_mul (hc q hq) rfl
  rw [e1, sumTo_comm]
  refine (sumTo_mod p (g := fun _ => 0) fun i hi => ?_).trans (by rw [sumTo_zero fun _ _ => rfl]; rfl)
  rw [sumTo_mul, Int.mul_emod, h i hi]; simp
theorem Orth.congr {p : Int} {n : Nat} {m : List (List Int)} {v u : Nat → Int} (h : Orth p n m v) (e : ∀ q, q < n → v q % p = u q % p) : Orth p n m u := fun i hi => by
  rw [← h i hi]; exact (sumTo_mod p fun q hq => cg_mul rfl (e q hq)).symm
theorem Orth.append {p : Int} {n : Nat} {m m' : List (List Int)} {v : Nat → Int} : Orth p n (m ++ m') v ↔ Orth p n m v ∧ Orth p n m' v := by
  have hall : ∀ M : List (List Int), Orth p n M v ↔ ∀ x ∈ M, (sumTo n fun q => x.getD q 0 * v q) % p = 0 := fun M => by
    constructor
    · intro h x hx
      obtain ⟨i, hi, rfl⟩ := List.getElem_of_mem hx
      have := h i hi
      unfold ent at this; rwa [getD_of_lt [] hi] at this
    · intro h i hi
      have := h _ (List.getElem_mem hi)
      unfold ent; rwa [getD_of_lt [] hi]
  rw [hall, hall, hall]
  constructor
  · exact fun h => ⟨fun x hx => h x (by simp [hx]), fun x hx => h x (by simp [hx])⟩
  · rintro ⟨h1, h2⟩ x hx
    rcases List.mem_append.1 hx with h | h
    · exact h1 x h
    · exact h2 x h
end Go.Proofs.YtggigolkncckoaaGreat
namespace Go.Proofs.YtggigolkncckoaaGreat
theorem inv_mod {p a : Int} (hP : isP p = true) (h : a % p ≠ 0) : a * invF p (a % p) % p = 1 := by
  have h3 := (isP_ge hP).1
  have h1 := Int.emod_nonneg a (show p ≠ 0 by omega)
  have h2 := Int.emod_lt_of_pos a (show 0 < p by omega)
  have hs := inv_spec hP (show 0 < a % p by omega) h2
  have := (hs.2.2 (invF p (a % p)) (by omega) hs.2.1).2 rfl
  rw [Int.mul_emod, Int.emod_emod_of_dvd _ (Int.dvd_refl p)] at this
  rw [Int.mul_emod]
  exact this
section
variable {p : Int} {sq : List Int}
theorem Cl.two (x : Cl p sq) : x + x = (2 : Int) * x := by
  have := Cl.add_sm 1 1 x
  rw [Cl.one_sm] at this
  exact this.symm
theorem Cl.neg_mul (x y : Cl p sq) : (-x) * y = (-1 : Int) * (x * y) := by rw [Cl.neg_sm, Cl.sm_mul]
theorem Cl.vec_plus (hp : 0 < p) {a b : List Int} (ha : a.length = sq.length) (k : Int) : (Cl.vec hp (plusL p a b k) : Cl p sq) = Cl.vec hp a + k * Cl.vec hp b := Cl.same fun m hm => by
  rw [Cl.vec_co hp _ hm, Cl.add_co _ _ hm, Int.add_emod, Cl.vec_co hp _ hm, Cl.sm_co _ _ hm, Int.mul_emod, Cl.vec_co hp _ hm, ← Int.mul_emod, ← Int.add_emod, ← sumTo_mul, ← sumTo_add]
  refine sumTo_mod p fun i hi => ?_
  by_cases h : m = 2 ^ i
  · rw [if_pos h, if_pos h, if_pos h, plusL_getD _ _ (by omega), Int.emod_emod_of_dvd _ (Int.dvd_refl p)]
  · rw [if_neg h, if_neg h, if_neg h, Int.mul_zero]; rfl
theorem Cl.vec_scale (hp : 0 < p) {a : List Int} (ha : a.length = sq.length) (k : Int) : (Cl.vec hp (scaleL p a k) : Cl p sq) = k * Cl.vec hp a := Cl.same fun m hm => by
  rw [Cl.vec_co hp _ hm, Cl.sm_co _ _ hm, Int.mul_emod, Cl.vec_co hp _ hm, ← Int.mul_emod, ← sumTo_mul]
  refine sumTo_mod p fun i hi => ?_
  by_cases h : m = 2 ^ i
  · rw [if_pos h, if_pos h, scaleL_getD _ (by omega), Int.emod_emod_of_dvd _ (Int.dvd_refl p), Int.mul_comm]
  · rw [if_neg h, if_neg h, Int.mul_zero]
theorem Cl.vec_at (hp : 0 < p) {v : List Int} (hv : NumsL p v) (hl : v.length = sq.length) : partL sq.length (Cl.vec hp v : Cl p sq).l = v := by
  refine list_ext_getD 0 (by rw [partL_len, hl]) fun i hi => ?_
  rw [partL_len] at hi
  have e : (partL sq.length (Cl.vec hp v : Cl p sq).l).getD i 0 = (Cl.vec hp v : Cl p sq).co (2 ^ i) := by
    unfold partL
    rw [getD_of_lt 0 (by simpa using hi), List.getElem_map, List.getElem_range]; rfl
  rw [e, ← Cl.co_mod, Cl.vec_co hp v (two_lt hi), sumTo_one i hi fun j hj hne => if_neg fun e => hne (pow_inj e).symm, if_pos rfl]
  have := hv.getD hp i
  exact Int.emod_eq_of_lt this.1 this.2
theorem pairL_bil {v u : List Int} (hv : v.length = sq.length) : pairL p sq v u % p = bil sq v u % p := by
  rw [pairL_sum hv, Int.emod_emod_of_dvd _ (Int.dvd_refl p)]
  unfold bil
  refine sumTo_mod p fun i _ => ?_
  rw [Int.mul_emod, Int.emod_emod_of_dvd _ (Int.dvd_refl p), ← Int.mul_emod]
end
end Go.Proofs.YtggigolkncckoaaGreat
namespace Go.Proofs.YtggigolkncckoaaGreat
section
variable {p : Int} {sq : List Int}
theorem only_iff {ys : List Int} (hl : ys.length ≤ 64) (k : Nat) : onlyL ys k = true ↔ ∀ i, i < ys.length → pc i ≠ k → ys.getD i 0 = 0 := by
  unfold onlyL
  rw [Bool.not_eq_true', List.any_eq_false]
  constructor
  · intro h i hi hne
    by_cases h0 : ys.getD i 0 = 0
    · exact h0
    · have := h _ ((gradesL_mem ys hl _).2 ⟨i, hi, h0, rfl⟩)
      simp at this
      omega
  · intro h g hg
    obtain ⟨i, hi, h0, rfl⟩ := (gradesL_mem ys hl _).1 hg
    by_cases hp : pc i = k
    · simp [hp]
    · exact absurd (h i hi hp) h0
theorem Cl.only_co (h6 : sq.length ≤ 6) (x : Cl p sq) (k : Nat) : onlyL x.l k = true ↔ ∀ m, m < pw sq.length → pc m ≠ k → x.co m = 0 := by
  rw [only_iff (by rw [x.len]; exact pw_le (k := 6) h6), x.len]; rfl
/-- A vector is a sum of multiples of unit vectors. -/
def Cl.sum (hp : 0 < p) : Nat → (Nat → Cl p sq) → Cl p sq
  | 0, _ => Cl.zero hp
  | n + 1, f => Cl.sum hp n f + f n
theorem Cl.zero_co (hp : 0 < p) {m : Nat} (hm : m < pw sq.length) : (Cl.zero hp : Cl p sq).co m % p = 0 := by
  unfold Cl.zero; rw [Cl.of_cg _ _ hm, Int.zero_emod]
theorem Cl.sum_co (hp : 0 < p) (f : Nat → Cl p sq) {m : Nat} (hm : m < pw sq.length) : ∀ n, (Cl.sum hp n f).co m % p = (sumTo n fun i => (f i).co m) % p := by
  intro n
  induction n with
  | zero => rw [show Cl.sum hp 0 f = Cl.zero hp from rfl, Cl.zero_co hp hm]; rfl
  | succ n ih =>
    rw [show Cl.sum hp (n + 1) f = Cl.sum hp n f + f n from rfl, Cl.add_co _ _ hm, Int.add_emod, ih, ← Int.add_emod, sumTo_succ]
theorem Cl.zero_mul (hp : 0 < p) (x : Cl p sq) : Cl.zero hp * x = Cl.zero hp := by
  have := Cl.zero_sm (x := (Cl.one hp : Cl p sq))
  rw [← this, Cl.sm_mul, Cl.one_mul, Cl.zero_sm, Cl.zero_sm]
theorem Cl.mul_zero (hp : 0 < p) (x : Cl p sq) : x * Cl.zero hp = Cl.zero hp := by
  have := Cl.zero_sm (x := (Cl.one hp : Cl p sq))
  rw [← this, Cl.mul_sm, Cl.mul_one, Cl.zero_sm, Cl.zero_sm]
end
end Go.Proofs.YtggigolkncckoaaGreat
namespace Go.Proofs.YtggigolkncckoaaGreat
open Go.RowKit
theorem pairL_small {P : Int} (hp : 2 ≤ P) (sq v u : List Int) : 0 ≤ pairL P sq v u ∧ pairL P sq v u < P := by
  unfold pairL dotL
  exact ⟨Int.emod_nonneg _ (by omega), Int.emod_lt_of_pos _ (by omega)⟩
theorem mul_two_small {P a b : Int} (h2 : P ≤ 13) (ha : 0 ≤ a ∧ a < P) (hb : 0 ≤ b ∧ b < P) : 0 ≤ a * b ∧ a * b ≤ 144 :=
  ⟨Int.mul_nonneg ha.1 hb.1, Int.le_trans (Int.mul_le_mul_of_nonneg_right (show a ≤ 12 by omega) hb.1) (by omega)⟩
end Go.Proofs.YtggigolkncckoaaGreat
namespace Go.Proofs.YtggigolkncckoaaGreat
open Go.RowKit
theorem bind_own {rows : List Value} {i : Nat} {v : Value} (h : rows[i]? = some v) : (rows[i]?).bind Value.ownBlock = v.ownBlock := by rw [h]; rfl
theorem Nest.set {w w' : World} {B : Nat} {rows : List Value} {xss : List (List Int)} (h : Nest w B rows xss) {j : Nat} (hj : j < xss.length) {A : Option Addr} {c : Nat} (hr : rows[j]? = some (.slice A xss[j].length c)) {ys : List Int} (hl : ys.length = xss[j].length)
    (ho : Own w' B 2 A xss[j].length c (ints ys)) (hg : w.grownBy w' (Value.slice A xss[j].length c).ownBlock) : Nest w' B rows (xss.set j ys) := by
  refine ⟨by rw [List.length_set]; exact h.len, fun k hk => ?_, h.apart⟩
  have hk' : k < xss.length := by rw [List.length_set] at hk; exact hk
  rw [List.getElem_set]
  by_cases e : j = k
  · subst e
    rw [if_pos rfl, hl]
    exact ⟨A, c, hr, ho⟩
  · rw [if_neg e]
    obtain ⟨A', c', e', ho'⟩ := h.row k hk'
    refine ⟨A', c', e', ho'.grown hg ?_⟩
    cases hb : (Value.slice A' xss[k].length c').ownBlock with
    | none => exact .inl rfl
    | some g =>
      right
      intro hh
      rcases Nat.lt_or_ge j k with hlt | hge
      · exact h.apart j k g hlt ((bind_own hr).trans hh.symm) ((bind_own e').trans hb)
      · exact h.apart k j g (by omega) ((bind_own e').trans hb) ((bind_own hr).trans hh.symm)
/-- A slice of rows of numbers of the call's own, from block B on. -/
def OwnII (w : World) (B : Nat) (A : Option Addr) (n c : Nat) (xss : List (List Int)) : Prop := ∃ rows, Own w B 24 A n c rows ∧ Nest w B rows xss
theorem MkII.own {w0 w : World} {A : Option Addr} {n c : Nat} {xss : List (List Int)} (h : MkII w0 w A n c xss) : OwnII w w0.heap.size A n c xss := by
  obtain ⟨rows, h1, h2⟩ := h
  exact ⟨rows, h1.2, h2⟩
section
variable {w w' : World} {B B' : Nat} {A : Option Addr} {n c : Nat} {xss : List (List Int)}
theorem OwnII.len (h : OwnII w B A n c xss) : xss.length = n := by
  obtain ⟨rows, h1, h2⟩ := h
  rw [← h2.len]
  exact h1.len
theorem OwnII.rd (h : OwnII w B A n c xss) : RdII w A n xss := by
  obtain ⟨rows, hm, hn⟩ := h
  exact ⟨rows, hm.rd, hn.len, fun k hk => by obtain ⟨A', c', e, ho⟩ := hn.row k hk; exact ⟨A', c', e, ho.rd, ho.cap⟩⟩
theorem OwnII.below (h : OwnII w B A n c xss) (hb : Below w.heap.size w w') : OwnII w' B A n c xss := by
  obtain ⟨rows, hm, hn⟩ := h
  exact ⟨rows, hm.below hb, hn.below hb⟩
/-- A block below the base grows. -/
theorem OwnII.grown (h : OwnII w B A n c xss) {row : Option Nat} (hg : w.grownBy w' row) (hlow : ∀ g, row = some g → g < B) : OwnII w' B A n c xss := by
  obtain ⟨rows, hm, hn⟩ := h
  have key : ∀ {E : TypeId} {A' : Option Addr} {n' c' : Nat} {us : List Value}, Own w B E A' n' c' us → ((Value.slice A' n' c').ownBlock = none ∨ (Value.slice A' n' c').ownBlock ≠ row) := by
    intro E A' n' c' us ho
    cases hb : (Value.slice A' n' c').ownBlock with
    | none => exact .inl rfl
    | some g =>
      right
      intro e
      have h1 := hlow g e.symm
      have h2 := (World.ownsRow.lt ho g hb).1
      omega
  exact ⟨rows, hm.grown hg (key hm), hn.len, fun k hk => by obtain ⟨A', c', e, ho⟩ := hn.row k hk; exact ⟨A', c', e, ho.grown hg (key ho)⟩, hn.apart⟩
end
end Go.Proofs.YtggigolkncckoaaGreat
namespace Go.Proofs.YtggigolkncckoaaGreat
open Go.RowKit
theorem Blk.newAt3 {w : World} {t : TypeId} {cs : Array Value} {g : Nat} (hg : g = w.heap.size) : Blk (w.alloc (.cells cs t)) g t cs := hg ▸ Blk.new w t cs
end Go.Proofs.YtggigolkncckoaaGreat
namespace Go.Proofs.YtggigolkncckoaaGreat
open Go.RowKit
/-- The code of a regular space and of vectors. -/
def codeVb (P : Int) (sq : List Int) (vs : List (List Int)) : Int := if codeV P sq vs = 0 then (if regB sq then 0 else 5) else codeV P sq vs
theorem codeVs_no (P : Int) (sq : List Int) (vs : List (List Int)) : codeVs P sq [] vs = codeVb P sq vs := by
  unfold codeVs codeVb
  by_cases h : isSp P sq = true
  · have : codeM P sq [] = 0 := by unfold codeM; simp [h]
    rw [if_pos this]
  · have h1 : codeM P sq [] = 1 := by unfold codeM; rw [if_neg h]
    have h2 : codeV P sq vs = 1 := by unfold codeV; rw [if_neg h]
    rw [h1, h2]; rfl
theorem codeV_mk {P : Int} {sq : List Int} {vs : List (List Int)} (h1 : isSp P sq = true) (h : ∀ v ∈ vs, isVe P sq v = true) : codeV P sq vs = 0 := by
  unfold codeV
  rw [if_pos h1, if_neg]
  intro hh
  obtain ⟨v, hv, e⟩ := List.any_eq_true.1 hh
  rw [h v hv] at e
  cases e
theorem isVe_mk {P : Int} {sq ys : List Int} (h1 : ys.length = sq.length) (h2 : NumsL P ys) : isVe P sq ys = true := by
  unfold isVe nums
  rw [h1, Bool.and_eq_true]
  refine ⟨by simp, List.all_eq_true.2 fun x hx => ?_⟩
  have := h2 x hx
  simp [inR]
  omega
theorem checkVersV_any (P : Int) (A C : Option Addr) (n c l f : Nat) (sq : List Int) (vs : List (List Int)) (w : World) (hn : n ≤ 1048576) (hl : l ≤ 1048576) (ha : Rd w A n (ints sq)) (hc : RdII w C l vs) (hvs : ∀ ys ∈ vs, ys.length ≤ 1048576) :
    Calls Tryz.prog 150 #[.agg #[.int .i64 P, .slice A n c], .slice none 0 0, .slice C l f] w fun e w' => e = .returned (.int .i64 (codeVb P sq vs)) ∧ Below w.heap.size w w' := by
  have h := checkVersors_any P A none C n c 0 0 l f sq [] vs w hn (by omega) hl ha ⟨[], Rd.nil _ _, rfl, fun k h => absurd h (by simp)⟩ (by simp) hc hvs
  rwa [codeVs_no] at h
end Go.Proofs.YtggigolkncckoaaGreat
namespace Go.Proofs.YtggigolkncckoaaGreat
open Go.RowKit
theorem RdII.nil (w : World) (A : Option Addr) : RdII w A 0 [] := ⟨[], Rd.nil w A, rfl, fun k h => absurd h (by simp)⟩
end Go.Proofs.YtggigolkncckoaaGreat
namespace Go.Proofs.YtggigolkncckoaaGreat
section
variable {P : Int} {sq xs ys : List Int}
end
theorem codeM_mk {P : Int} {sq : List Int} {ms : List (List Int)} (h1 : isSp P sq = true) (h : ∀ ys ∈ ms, ys.length = pw sq.length ∧ NumsL P ys) : codeM P sq ms = 0 := by
  unfold codeM
  rw [if_pos h1, if_neg]
  intro hh
  obtain ⟨ys, hy, e⟩ := List.any_eq_true.1 hh
  obtain ⟨h2, h3⟩ := h ys hy
  have h4 : isMu P sq ys = true := by
    unfold isMu nums
    rw [h2, Bool.and_eq_true]
    refine ⟨by simp, List.all_eq_true.2 fun x hx => ?_⟩
    have := h3 x hx
    simp [inR]
    omega
  rw [h4] at e
  simp at e
end Go.Proofs.YtggigolkncckoaaGreat
namespace Go.Proofs.YtggigolkncckoaaGreat
section
variable {p : Int} {sq : List Int}
theorem cg_wit {p a b : Int} : a % p = b % p ↔ ∃ k, a = b + p * k := by
  constructor
  · intro h
    have h1 := Int.emod_add_mul_ediv a p
    have h2 := Int.emod_add_mul_ediv b p
    exact ⟨a / p - b / p, by grind⟩
  · rintro ⟨k, rfl⟩
    rw [Int.add_mul_emod_self_left]
end
end Go.Proofs.YtggigolkncckoaaGreat
namespace Go.Proofs.YtggigolkncckoaaGreat
section
variable {p : Int} {sq : List Int}
instance : Std.Associative (α := Cl p sq) (· + ·) := ⟨Cl.add_assoc⟩
instance : Std.Commutative (α := Cl p sq) (· + ·) := ⟨Cl.add_comm⟩
def Cl.brk (x y : Cl p sq) : Cl p sq := x * y + (-1 : Int) * (y * x)
theorem Cl.gone (X : Cl p sq) : (-1 : Int) * X + X = Cl.zero X.pos := by
  have h : X = (1 : Int) * X := (Cl.one_sm X).symm
  calc (-1 : Int) * X + X = (-1 : Int) * X + (1 : Int) * X := by rw [← h]
    _ = ((-1 + 1 : Int)) * X := (Cl.add_sm _ _ _).symm
    _ = (0 : Int) * X := rfl
    _ = _ := Cl.zero_sm X
theorem Cl.brk_add_l (a b y : Cl p sq) : Cl.brk (a + b) y = Cl.brk a y + Cl.brk b y := by
  unfold Cl.brk
  rw [Cl.add_mul, Cl.mul_add, Cl.sm_add]
  ac_rfl
theorem Cl.brk_add_r (x a b : Cl p sq) : Cl.brk x (a + b) = Cl.brk x a + Cl.brk x b := by
  unfold Cl.brk
  rw [Cl.add_mul, Cl.mul_add, Cl.sm_add]
  ac_rfl
theorem Cl.brk_sm_l (k : Int) (a y : Cl p sq) : Cl.brk (k * a) y = k * Cl.brk a y := by
  unfold Cl.brk
  rw [Cl.sm_mul, Cl.mul_sm, Cl.sm_add, Cl.sm_sm, Cl.sm_sm, Int.mul_comm]
theorem Cl.brk_sm_r (k : Int) (x y : Cl p sq) : Cl.brk x (k * y) = k * Cl.brk x y := by
  unfold Cl.brk
  rw [Cl.sm_mul, Cl.mul_sm, Cl.sm_add, Cl.sm_sm, Cl.sm_sm, Int.mul_comm]
theorem Cl.brk_anti (x y : Cl p sq) : Cl.brk x y = (-1 : Int) * Cl.brk y x := by
  unfold Cl.brk
  rw [Cl.sm_add, Cl.sm_sm, show (-1 : Int) * -1 = 1 from rfl, Cl.one_sm, Cl.add_comm]
theorem Cl.brk_one (hp : 0 < p) (k : Int) (y : Cl p sq) : Cl.brk (k * Cl.one hp) y = Cl.zero hp := by
  rw [Cl.brk_sm_l]
  unfold Cl.brk
  rw [Cl.one_mul, Cl.mul_one, Cl.add_comm, Cl.gone, ← Cl.zero_sm (Cl.one hp), Cl.sm_sm, Int.mul_zero]
/-- The identity of Jacobi. -/
theorem Cl.brk_jac (x y v : Cl p sq) : Cl.brk (Cl.brk x y) v = Cl.brk x (Cl.brk y v) + (-1 : Int) * Cl.brk y (Cl.brk x v) := by
  unfold Cl.brk
  simp only [Cl.add_mul, Cl.mul_add, Cl.sm_mul, Cl.mul_sm, Cl.sm_add, Cl.sm_sm, Cl.mul_assoc, Int.reduceNeg, Int.reduceMul, Cl.one_sm]
  have e1 := Cl.gone (x * (v * y))
  have e2 := Cl.gone (y * (v * x))
  have e3 : ∀ X : Cl p sq, X = X + (((-1 : Int) * (x * (v * y)) + x * (v * y)) + ((-1 : Int) * (y * (v * x)) + y * (v * x))) := fun X => by
    rw [e1, e2, Cl.add_zero, Cl.add_zero]
  rw [e3 (x * (y * v) + (-1 : Int) * (y * (x * v)) + _)]
  ac_rfl
theorem Cl.brk_l (x y : Cl p sq) : (Cl.brk x y).l = brkL p sq sq.length x.l y.l := by
  unfold Cl.brk
  rw [Cl.add_l, Cl.mul_l, Cl.mul_l, ← brkL_eq x.len x.nums y.len y.nums]
  exact plusL_mod p _ _ (by rw [show p - 1 = -1 + p by omega, Int.add_emod_right])
/-- The bracket of two vectors' product with a vector. -/
theorem Cl.brk_two (hp : 0 < p) (u v w : List Int) : Cl.brk (Cl.vec hp u * Cl.vec hp v : Cl p sq) (Cl.vec hp w) = (2 * bil sq v w) * Cl.vec hp u + (-(2 * bil sq u w)) * Cl.vec hp v := by
  have h1 := congrArg (fun y : Cl p sq => Cl.vec hp u * y) (Cl.vec_anti hp v w (sq := sq))
  have h2 := congrArg (fun y : Cl p sq => y * Cl.vec hp v) (Cl.vec_anti hp u w (sq := sq))
  simp only [Cl.mul_add, Cl.add_mul, Cl.mul_sm, Cl.sm_mul, Cl.mul_one, Cl.one_mul, Cl.mul_assoc] at h1 h2
  rw [← h1]
  have h3 : (-(2 * bil sq u w)) * Cl.vec hp v = (-1 : Int) * ((2 * bil sq u w) * Cl.vec hp v : Cl p sq) := by
    rw [Cl.sm_sm]; congr 1; omega
  rw [h3, ← h2]
  unfold Cl.brk
  rw [Cl.sm_add, Cl.mul_assoc]
  have e1 := Cl.gone (Cl.vec hp u * (Cl.vec hp w * Cl.vec hp v) : Cl p sq)
  have e3 : ∀ X : Cl p sq, X = X + ((-1 : Int) * (Cl.vec hp u * (Cl.vec hp w * Cl.vec hp v)) + Cl.vec hp u * (Cl.vec hp w * Cl.vec hp v)) := fun X => by rw [e1, Cl.add_zero]
  rw [e3 (Cl.vec hp u * (Cl.vec hp v * Cl.vec hp w) + _)]
  ac_rfl
theorem pc2_all : ∀ m : Nat, m < 64 → pc m = 2 → ∃ i, i < 6 ∧ ∃ j, j < 6 ∧ i < j ∧ m = 2 ^ i ^^^ 2 ^ j := by decide +kernel
theorem pc2_one : ∀ i : Nat, i < 6 → ∀ j : Nat, j < 6 → i ≠ j → pc (2 ^ i ^^^ 2 ^ j) = 2 := by decide +kernel
theorem pc2_low : ∀ i : Nat, i < 6 → ∀ j : Nat, j < 6 → i < j → 2 ^ j ≤ 2 ^ i ^^^ 2 ^ j := by decide +kernel
theorem pc2_same' : ((List.range 6).all fun i => (List.range 6).all fun j => (List.range 6).all fun a => (List.range 6).all fun b => !(decide (i < j) && decide (a < b) && (2 ^ i ^^^ 2 ^ j == 2 ^ a ^^^ 2 ^ b)) || (i == a && j == b)) = true := by decide +kernel
theorem pc2_same (i : Nat) (hi : i < 6) (j : Nat) (hj : j < 6) (a : Nat) (ha : a < 6) (b : Nat) (hb : b < 6) (h : i < j) (h' : a < b) (e : 2 ^ i ^^^ 2 ^ j = 2 ^ a ^^^ 2 ^ b) : i = a ∧ j = b := by
  have h0 := pc2_same'
  simp only [List.all_eq_true, List.mem_range] at h0
  have h1 := h0 i hi j hj a ha b hb
  rw [decide_eq_true h, decide_eq_true h', e] at h1
  simpa using h1
theorem pc2_dim {n m : Nat} (h6 : n ≤ 6) (hm : m < pw n) (h : pc m = 2) : ∃ i j, i < j ∧ j < n ∧ m = 2 ^ i ^^^ 2 ^ j := by
  have hpw := pw_le (k := 6) h6
  obtain ⟨i, hi, j, hj, hij, e⟩ := pc2_all m (Nat.lt_of_lt_of_le hm hpw) h
  refine ⟨i, j, hij, ?_, e⟩
  have h1 := pc2_low i hi j hj hij
  have h2 : 2 ^ j < 2 ^ n := by rw [← e] at h1; exact Nat.lt_of_le_of_lt h1 hm
  exact (Nat.pow_lt_pow_iff_right (by decide)).1 h2
theorem pc2_lt {n i j : Nat} (hi : i < n) (hj : j < n) : 2 ^ i ^^^ 2 ^ j < pw n := xor_lt (two_lt hi) (two_lt hj)
/-- The product of two unit vectors. -/
def Cl.uu (hp : 0 < p) (i j : Nat) : Cl p sq := Cl.vec hp (unitRow sq.length i) * Cl.vec hp (unitRow sq.length j)
theorem Cl.vv_co (hp : 0 < p) (u v : List Int) {m : Nat} (hm : m < pw sq.length) : (Cl.vec hp u * Cl.vec hp v : Cl p sq).co m % p = (sumTo sq.length fun i => sumTo sq.length fun j => if 2 ^ i ^^^ 2 ^ j = m then u.getD i 0 * v.getD j 0 * facZ sq (2 ^ i) (2 ^ j) else 0) % p := by
  rw [Cl.mul_co _ _ hm, mulZ_cg p sq (fun a ha => Cl.vec_co hp u ha) (fun a ha => Cl.vec_co hp v ha) hm, mulZ_vec sq u v hm]
theorem Cl.uu_co (hp : 0 < p) {i j : Nat} (hij : i < j) (hj : j < sq.length) {m : Nat} (hm : m < pw sq.length) : (Cl.uu hp i j : Cl p sq).co m % p = (if m = 2 ^ i ^^^ 2 ^ j then 1 else 0) % p := by
  unfold Cl.uu
  rw [Cl.vv_co hp _ _ hm]
  congr 1
  rw [sumTo_one i (by omega) fun a ha hne => sumTo_zero fun b hb => by
    split
    · rw [unitRow_getD ha, if_neg (fun e => hne e.symm), Int.zero_mul, Int.zero_mul]
    · rfl]
  rw [sumTo_one j hj fun b hb hne => by
    split
    · rw [unitRow_getD hb, if_neg (fun e => hne e.symm), Int.mul_zero, Int.zero_mul]
    · rfl]
  rw [unitRow_getD (by omega), unitRow_getD hj, if_pos rfl, if_pos rfl, (facZ_less sq hij hj).1]
  by_cases h : m = 2 ^ i ^^^ 2 ^ j
  · rw [if_pos h, if_pos h.symm]; rfl
  · rw [if_neg h, if_neg fun e => h e.symm]
theorem Cl.biv_dec (hp : 0 < p) (h6 : sq.length ≤ 6) {x : Cl p sq} (hx : onlyL x.l 2 = true) :
    x = Cl.sum hp sq.length fun j => Cl.sum hp sq.length fun i => (if i < j then x.co (2 ^ i ^^^ 2 ^ j) else 0) * Cl.uu hp i j := Cl.same fun m hm => by
  have ho := (Cl.only_co h6 x 2).1 hx
  rw [Cl.sum_co hp _ hm]
  have e : ∀ j, j < sq.length → (Cl.sum hp sq.length fun i => (if i < j then x.co (2 ^ i ^^^ 2 ^ j) else 0) * Cl.uu hp i j : Cl p sq).co m % p = (sumTo sq.length fun i => if i < j ∧ m = 2 ^ i ^^^ 2 ^ j then x.co m else 0) % p := fun j hj => by
    rw [Cl.sum_co hp _ hm]
    refine sumTo_mod p fun i hi => ?_
    rw [Cl.sm_co _ _ hm]
    by_cases h : i < j
    · rw [if_pos h, Int.mul_emod, Cl.uu_co hp h hj hm, ← Int.mul_emod]
      by_cases h2 : m = 2 ^ i ^^^ 2 ^ j
      · rw [if_pos h2, if_pos ⟨h, h2⟩, Int.mul_one, ← h2]
      · rw [if_neg h2, if_neg (fun h3 => h2 h3.2), Int.mul_zero]
    · rw [if_neg h, if_neg (fun h3 => h h3.1), Int.zero_mul]
  rw [sumTo_mod p e]
  by_cases h2 : pc m = 2
  · obtain ⟨a, b, hab, hb, hm2⟩ := pc2_dim h6 hm h2
    rw [sumTo_one b hb fun j hj hne => sumTo_zero fun i hi => if_neg fun h3 => hne (pc2_same a (by omega) b (by omega) i (by omega) j (by omega) hab h3.1 (by rw [← hm2]; exact h3.2)).2.symm]
    rw [sumTo_one a (by omega) fun i hi hne => if_neg fun h3 => hne (pc2_same a (by omega) b (by omega) i (by omega) b (by omega) hab h3.1 (by rw [← hm2]; exact h3.2)).1.symm]
    rw [if_pos ⟨hab, hm2⟩]
  · rw [ho m hm h2, sumTo_zero fun j hj => sumTo_zero fun i hi => by split <;> rfl]
theorem Cl.sum_ind (hp : 0 < p) (Pr : Cl p sq → Prop) (h0 : Pr (Cl.zero hp)) (ha : ∀ a b, Pr a → Pr b → Pr (a + b)) (f : Nat → Cl p sq) : ∀ n, (∀ i, i < n → Pr (f i)) → Pr (Cl.sum hp n f)
  | 0, _ => h0
  | n + 1, h => ha _ _ (Cl.sum_ind hp Pr h0 ha f n fun i hi => h i (by omega)) (h n (by omega))
/-- What holds of products of two unit vectors, of sums and of multiples, holds of bivectors. -/
theorem Cl.biv_ind (hp : 0 < p) (h6 : sq.length ≤ 6) {x : Cl p sq} (hx : onlyL x.l 2 = true) (Pr : Cl p sq → Prop) (h0 : Pr (Cl.zero hp)) (ha : ∀ a b, Pr a → Pr b → Pr (a + b)) (hs : ∀ (k : Int) a, Pr a → Pr (k * a)) (hb : ∀ i j, i < j → j < sq.length → Pr (Cl.uu hp i j)) : Pr x := by
  rw [Cl.biv_dec hp h6 hx]
  refine Cl.sum_ind hp Pr h0 ha _ _ fun j hj => Cl.sum_ind hp Pr h0 ha _ _ fun i hi => ?_
  by_cases h : i < j
  · exact hs _ _ (hb i j h hj)
  · rw [if_neg h, Cl.zero_sm]; exact h0
theorem Cl.vec_zero (hp : 0 < p) : (Cl.vec hp (scaleL p (unitRow sq.length 0) 0) : Cl p sq) = Cl.zero hp := by
  rw [Cl.vec_scale hp (unitRow_len _ _), Cl.zero_sm]
theorem Cl.brk_zero (hp : 0 < p) (y : Cl p sq) : Cl.brk (Cl.zero hp) y = Cl.zero hp := by
  rw [← Cl.zero_sm (Cl.one hp), Cl.brk_one, Cl.zero_sm]
theorem Cl.turns (hp : 0 < p) (h6 : sq.length ≤ 6) {x : Cl p sq} (hx : onlyL x.l 2 = true) : ∀ v : List Int, ∃ u : List Int, u.length = sq.length ∧ NumsL p u ∧ Cl.brk x (Cl.vec hp v) = Cl.vec hp u := by
  refine Cl.biv_ind hp h6 hx (fun x => ∀ v : List Int, ∃ u : List Int, u.length = sq.length ∧ NumsL p u ∧ Cl.brk x (Cl.vec hp v) = Cl.vec hp u) ?_ ?_ ?_ ?_
  · intro v
    exact ⟨scaleL p (unitRow sq.length 0) 0, by rw [scaleL_len, unitRow_len], scaleL_nums hp _ _, by rw [Cl.brk_zero, Cl.vec_zero]⟩
  · intro a b h1 h2 v
    obtain ⟨u1, l1, n1, e1⟩ := h1 v
    obtain ⟨u2, l2, n2, e2⟩ := h2 v
    exact ⟨plusL p u1 u2 1, by rw [plusL_len, l1], plusL_nums hp _ _ _, by rw [Cl.brk_add_l, e1, e2, Cl.vec_plus hp l1, Cl.one_sm]⟩
  · intro k a h1 v
    obtain ⟨u1, l1, n1, e1⟩ := h1 v
    exact ⟨scaleL p u1 k, by rw [scaleL_len, l1], scaleL_nums hp _ _, by rw [Cl.brk_sm_l, e1, Cl.vec_scale hp l1]⟩
  · intro i j hij hj v
    refine ⟨plusL p (scaleL p (unitRow sq.length i) (2 * bil sq (unitRow sq.length j) v)) (unitRow sq.length j) (-(2 * bil sq (unitRow sq.length i) v)), by rw [plusL_len, scaleL_len, unitRow_len], plusL_nums hp _ _ _, ?_⟩
    unfold Cl.uu
    rw [Cl.brk_two, Cl.vec_plus hp (by rw [scaleL_len, unitRow_len]), Cl.vec_scale hp (unitRow_len _ _)]
/-- A bivector's turn of a vector, in the algebra. -/
theorem turn_cl (hp : 0 < p) (h6 : sq.length ≤ 6) {x : Cl p sq} (hx : onlyL x.l 2 = true) {v : List Int} (hv : NumsL p v) : (Cl.vec hp (turnL p sq sq.length x.l v) : Cl p sq) = invF p 2 * Cl.brk x (Cl.vec hp v) := by
  obtain ⟨u, l1, n1, e1⟩ := Cl.turns hp h6 hx v
  unfold turnL
  rw [← Cl.vec_l hp hv, ← Cl.brk_l, e1, Cl.vec_at hp n1 l1, Cl.vec_scale hp l1]
theorem vec_inj (hp : 0 < p) {u v : List Int} (hu : NumsL p u) (lu : u.length = sq.length) (hv : NumsL p v) (lv : v.length = sq.length) (h : (Cl.vec hp u : Cl p sq) = Cl.vec hp v) : u = v := by
  rw [← Cl.vec_at hp hu lu, h, Cl.vec_at hp hv lv]
theorem half_two (hP : isP p = true) : 2 * invF p 2 % p = 1 % p := by
  have h3 := (isP_ge hP).1
  have := inv_mod hP (a := 2) (by rw [Int.emod_eq_of_lt (by omega) (by omega)]; decide)
  rw [Int.emod_eq_of_lt (by omega) (show (2 : Int) < p by omega)] at this
  rw [this, Int.emod_eq_of_lt (by omega) (by omega)]
theorem Cl.vv_grade (hp : 0 < p) (h6 : sq.length ≤ 6) (u v : List Int) {m : Nat} (hm : m < pw sq.length) (h0 : m ≠ 0) (h2 : pc m ≠ 2) : (Cl.vec hp u * Cl.vec hp v : Cl p sq).co m = 0 := by
  rw [← Cl.co_mod, Cl.vv_co hp _ _ hm, sumTo_zero fun i hi => sumTo_zero fun j hj => if_neg fun e => ?_, Int.zero_emod]
  by_cases hij : i = j
  · exact h0 (by rw [← e, hij, Nat.xor_self])
  · exact h2 (by rw [← e]; exact pc2_one i (by omega) j (by omega) hij)
theorem Cl.brk_co0 (x y : Cl p sq) : (Cl.brk x y).co 0 = 0 := by
  have hm := pw_pos sq.length
  have e : (x * y).co 0 % p = (y * x).co 0 % p := by
    rw [Cl.mul_co _ _ hm, Cl.mul_co _ _ hm]
    unfold mulZ
    congr 1
    refine sumTo_congr fun a _ => ?_
    rw [Nat.xor_zero, Int.mul_comm (x.co a)]
  unfold Cl.brk
  rw [← Cl.co_mod, Cl.add_co _ _ hm, Int.add_emod, Cl.sm_co _ _ hm, ← Int.add_emod]
  obtain ⟨k, hk⟩ := cg_wit.1 e
  rw [hk]
  refine (cg_wit (b := 0)).2 ⟨k, by omega⟩ |>.trans (Int.zero_emod _)
theorem Cl.brk_uu (hp : 0 < p) (x : Cl p sq) (u v : Cl p sq) : Cl.brk x (u * v) = Cl.brk x u * v + u * Cl.brk x v := by
  unfold Cl.brk
  simp only [Cl.add_mul, Cl.mul_add, Cl.sm_mul, Cl.mul_sm, Cl.sm_add, Cl.sm_sm, Cl.mul_assoc]
  have e1 := Cl.gone (u * (x * v))
  have e3 : ∀ X : Cl p sq, X = X + ((-1 : Int) * (u * (x * v)) + u * (x * v)) := fun X => by rw [e1, Cl.add_zero]
  rw [e3 (x * (u * v) + _)]
  ac_rfl
theorem Cl.brk_biv (hp : 0 < p) (h6 : sq.length ≤ 6) {x y : Cl p sq} (hx : onlyL x.l 2 = true) (hy : onlyL y.l 2 = true) (k : Int) : onlyL (k * Cl.brk x y : Cl p sq).l 2 = true := by
  refine (Cl.only_co h6 _ 2).2 fun m hm hne => ?_
  have h : (Cl.brk x y).co m = 0 := by
    by_cases h0 : m = 0
    · rw [h0, Cl.brk_co0]
    · refine Cl.biv_ind hp h6 hy (fun y => (Cl.brk x y).co m = 0) ?_ ?_ ?_ ?_
      · rw [Cl.brk_anti, Cl.brk_zero, ← Cl.co_mod, Cl.sm_co _ _ hm, Int.mul_emod, Cl.zero_co hp hm, Int.mul_zero, Int.zero_emod]
      · intro a b h1 h2
        rw [Cl.brk_add_r, ← Cl.co_mod, Cl.add_co _ _ hm, h1, h2]; rfl
      · intro k a h1
        rw [Cl.brk_sm_r, ← Cl.co_mod, Cl.sm_co _ _ hm, h1, Int.mul_zero, Int.zero_emod]
      · intro i j hij hj
        unfold Cl.uu
        obtain ⟨u1, _, _, e1⟩ := Cl.turns hp h6 hx (unitRow sq.length i)
        obtain ⟨u2, _, _, e2⟩ := Cl.turns hp h6 hx (unitRow sq.length j)
        rw [Cl.brk_uu hp, e1, e2, ← Cl.co_mod, Cl.add_co _ _ hm, Cl.vv_grade hp h6 _ _ hm h0 hne, Cl.vv_grade hp h6 _ _ hm h0 hne]; rfl
  rw [← Cl.co_mod, Cl.sm_co _ _ hm, h, Int.mul_zero, Int.zero_emod]
end
end Go.Proofs.YtggigolkncckoaaGreat
namespace Go.Proofs.YtggigolkncckoaaGreat
section
variable {p : Int} {sq : List Int}
theorem inv_one (hP : isP p = true) {a : Int} (h0 : 0 ≤ a ∧ a < p) (ha : a ≠ 0) : a * invF p a % p = 1 % p := by
  have h3 := (isP_ge hP).1
  have := inv_mod hP (a := a) (by rw [Int.emod_eq_of_lt h0.1 h0.2]; exact ha)
  rw [Int.emod_eq_of_lt h0.1 h0.2] at this
  rw [this, Int.emod_eq_of_lt (by omega) (by omega)]
/-- A good list of vectors: of the right length, numbers, norms other than 0. -/
def Good (p : Int) (sq : List Int) (L : List (List Int)) : Prop := ∀ v ∈ L, v.length = sq.length ∧ NumsL p v ∧ bil sq v v % p ≠ 0
theorem Good.ne {L : List (List Int)} (h : Good p sq L) : ∀ v ∈ L, bil sq v v % p ≠ 0 := fun v hv => (h v hv).2.2
theorem Good.nums {L : List (List Int)} (h : Good p sq L) : ∀ v ∈ L, NumsL p v := fun v hv => (h v hv).2.1
end
end Go.Proofs.YtggigolkncckoaaGreat
namespace Go.Proofs.YtggigolkncckoaaGreat
open Go.RowKit
set_option maxHeartbeats 1600000 in
set_option maxRecDepth 8000 in
theorem matrixBy_turn (g gx : Nat) (P : Int) (A : Option Addr) (n c : Nat) (sq : List Int) (X : Option Addr) (cx : Nat) (xs : List Int) (w : World) (hp : 2 ≤ P) (hp2 : P ≤ 13) (hn : n ≤ 6) (h0 : 0 < n) (ha : Rd w A n (ints sq)) (hs : NumsL P sq) (hx : Rd w X (pw n) (ints xs)) (hxs : NumsL P xs) (hcx : pw n ≤ cx) (HP : isP P = true) (kg : Blk w g 26 #[.int .i64 P, .slice A n c]) (kx : Blk w gx 24 #[.slice X (pw n) cx]) :
    Calls Tryz.prog 263 #[.agg #[.int .i64 P, .slice A n c], .func (.func 315) #[] #[.pointer (some ⟨g, 0, none⟩), .pointer (some ⟨gx, 0, none⟩)]] w fun e w' => ∃ A' c', e = .returned (.slice A' n c') ∧ MkII w w' A' n c' (transL (colsL P sq n xs)) := by
  have hB0 : Below w.heap.size w (w.alloc (.cells #[.int .i64 P, .slice A n c] 26)) := (Below.refl _ _).alloc (Nat.le_refl _) _
  have k0 : Blk (w.alloc (.cells #[.int .i64 P, .slice A n c] 26)) w.heap.size 26 #[.int .i64 P, .slice A n c] := Blk.new _ _ _
  have hB1 := hB0.alloc (by simp) (.cells #[] 24)
  have k1 := k0.alloc (.cells #[] 24)
  have hM1 : MkII w ((w.alloc (.cells #[.int .i64 P, .slice A n c] 26)).alloc (.cells #[] 24)) (some ⟨w.heap.size + 1, 0, none⟩) 0 0 [] := by
    have := MkII.empty hB0
    simpa using this
  clear k0
  obtain ⟨q0, q1⟩ := k1.two
  go_enter Tryz.func263, Tryz.ntmps263
  go_wp2_with fail
  refine (dim_any _ _ _ _ _).mono ?_
  rintro e w2 ⟨rfl, hb2⟩
  have hM2 := hM1.below hb2
  have hB2 := hB1.trans (hb2.mono hB1.size)
  clear hM1 q0 q1 k1 hB0 hB1
  go_wp2_with fail
  refine (unit_any n _ (by omega)).mono ?_
  rintro e w3 ⟨U, cU, rfl, hU⟩
  have hM3 := hM2.below hU.b
  have hB3 := hB2.trans (hU.b.mono hB2.size)
  have hsz2 : w.heap.size + 1 < w2.heap.size := by have := hb2.size; simp at this; omega
  have hKp : Keeps w2 w3 w3 (.slice (some ⟨w.heap.size + 1, 0, none⟩) 0 0) := ⟨Nat.le_refl _, fun _ _ _ => rfl, fun gb e => .inl (lt_of_own e hsz2)⟩
  clear hM2 hB2 hb2 hsz2
  go_wp2
  go_loopw [5, 13] (fun out i wr => ∃ (k : Nat) (A' : Option Addr) (c' : Nat), k ≤ n ∧ i = .int .i64 k ∧ out = .slice A' k c' ∧ MkII w wr A' k c' (tab k fun k => turnL P sq n xs (unitRow n k)) ∧ Keeps w2 w3 wr (.slice A' k c')) (fun _ i _ => n - (intOf i).toNat)
  case atStart => exact ⟨0, _, _, by omega, rfl, rfl, by simpa [tab] using hM3, hKp⟩
  case round =>
    obtain ⟨k, A', c', hk, rfl, rfl, hM, hB4⟩ := hrel
    clear hM3 hKp
    by_cases hlt : k < n
    · obtain ⟨gu, ou, rfl, hxk, A1, c1, hcu, hru, hcc⟩ := (hU.keep hB4.2.1).at_ hlt
      have hrow := unitM_get n k hxk
      rw [hrow, unitRow_len] at hru hcu hcc
      have hcall := turning1_any g gx P A n c sq X cx xs A1 c1 (unitRow n k) wr hp hp2 hn (ha.below hM.b) hs (hx.below hM.b) hxs hcx hru (unitRow_nums hp n k) HP (kg.below hM.b kg.lt) (kx.below hM.b kx.lt)
      have HM := Lib.hid hM
      have HB4 := Lib.hid hB4
      clear hM hru hrow hB4
      go_wp2_with fail
      refine hcall.mono ?_
      rintro e w5 ⟨A5, c5, rfl, hM5⟩
      clear hcall
      go_wp2_with (at_builtin; refine wpList_appRowG w wr _ rfl _ _ rfl A' k c' _ A5 n c5 _ HM.out hM5 (by omega) rfl ?_ ?_; (go_simp); intro A6 c6 w6 hM6 hg6 hat6)
      go_roundw
      case rel => exact ⟨k + 1, A6, c6, by omega, by go_num, rfl, by rw [tab_succ]; exact hM6, HB4.out.step hM5.b hg6 hat6⟩
      case measure => simp [intOf]; omega
    · obtain rfl : k = n := by omega
      go_wp2_with fail
      refine (transpose_any P A' k c' (colsL P sq k xs) k _ h0 (by omega) (by omega) hM.rd (colsL_tab hp sq k xs)).mono ?_
      rintro e w5 ⟨A5, c5, rfl, hM5⟩
      go_wp2
      go_ret
      exact ⟨_, _, rfl, hM5.after hM.b⟩
set_option maxHeartbeats 1600000 in
set_option maxRecDepth 8000 in
theorem turning_any (P : Int) (A : Option Addr) (n c : Nat) (sq : List Int) (X : Option Addr) (cx : Nat) (xs : List Int) (w : World) (hp : 2 ≤ P) (hp2 : P ≤ 13) (hn : n ≤ 6) (h0 : 0 < n) (ha : Rd w A n (ints sq)) (hs : NumsL P sq) (hx : Rd w X (pw n) (ints xs)) (hxs : NumsL P xs) (hcx : pw n ≤ cx) (HP : isP P = true) :
    Calls Tryz.prog 196 #[.agg #[.int .i64 P, .slice A n c], .slice X (pw n) cx] w fun e w' => ∃ A' c', e = .returned (.slice A' n c') ∧ MkII w w' A' n c' (transL (colsL P sq n xs)) := by
  have hB0 : Below w.heap.size w (w.alloc (.cells #[.int .i64 P, .slice A n c] 26)) := (Below.refl _ _).alloc (Nat.le_refl _) _
  have k0 : Blk (w.alloc (.cells #[.int .i64 P, .slice A n c] 26)) w.heap.size 26 #[.int .i64 P, .slice A n c] := Blk.new _ _ _
  have hB1 := hB0.alloc (by simp) (.cells #[.slice X (pw n) cx] 24)
  have k1 := k0.alloc (.cells #[.slice X (pw n) cx] 24)
  have kx : Blk ((w.alloc (.cells #[.int .i64 P, .slice A n c] 26)).alloc (.cells #[.slice X (pw n) cx] 24)) (w.heap.size + 1) 24 #[.slice X (pw n) cx] := Blk.newAt (by simp)
  have hcall := matrixBy_turn w.heap.size (w.heap.size + 1) P A n c sq X cx xs _ hp hp2 hn h0 (ha.below hB1) hs (hx.below hB1) hxs hcx HP k1 kx
  obtain ⟨q0, q1⟩ := k1.two
  go_enter Tryz.func196, Tryz.ntmps196
  go_wp2_with fail
  refine hcall.mono ?_
  rintro e w2 ⟨A2, c2, rfl, hM⟩
  go_wp2
  go_ret
  exact ⟨_, _, rfl, hM.after hB1⟩
end Go.Proofs.YtggigolkncckoaaGreat
namespace Go.Proofs.YtggigolkncckoaaGreat
open Go.RowKit
set_option maxHeartbeats 1600000 in
set_option maxRecDepth 8000 in
theorem timesM_any (p : Int) (A : Option Addr) (n c : Nat) (M : List (List Int)) (B : Option Addr) (d : Nat) (N : List (List Int)) (w : World) (hp : 2 ≤ p) (hp2 : p ≤ 13) (h0 : 0 < n) (hn : n ≤ 65536) (ha : RdII w A n M) (hM : Tab p n M) (hb : RdII w B n N) (hN : Tab p n N) :
    Calls Tryz.prog 202 #[.int .i64 p, .slice A n c, .slice B n d] w fun e w' => ∃ A' c', e = .returned (.slice A' n c') ∧ MkII w w' A' n c' (timesM p M N) := by
  have HT := Lib.hid hM
  have HL := Lib.hid ha.len
  have HTT : Hid (Tab p n (transL N)) := Lib.hid (by have := transL_tab (show 0 < p by omega) hN; rwa [hb.len] at this)
  have hcall := transpose_any p B n d N n w h0 hn hn hb hN
  clear hM hN hb
  go_enter Tryz.func202, Tryz.ntmps202
  go_wp2_with fail
  refine hcall.mono ?_
  rintro e w1 ⟨T, cT, rfl, hT1⟩
  have hM0 : MkII w1 (w1.alloc (.cells #[] 24)) (some ⟨w1.heap.size, 0, none⟩) 0 0 [] := MkII.empty (Below.refl _ _)
  have HB1 := Lib.hid hT1.b
  have ha1 := ha.below hT1.b
  have hTr := hT1.rd
  clear hcall hT1 ha
  go_wp2
  go_loopw [8, 16] (fun out i wr => ∃ (k : Nat) (A' : Option Addr) (c' : Nat), k ≤ n ∧ i = .int .i64 k ∧ out = .slice A' k c' ∧ MkII w1 wr A' k c' (tab k fun i => applyL p (transL N) (M.getD i []))) (fun _ i _ => n - (intOf i).toNat)
  case atStart => exact ⟨0, _, _, by omega, rfl, rfl, by simpa [tab] using hM0⟩
  case round =>
    obtain ⟨k, A', c', hk, rfl, rfl, hM⟩ := hrel
    clear hM0
    by_cases hlt : k < n
    · obtain ⟨g, o, rfl, hxk, A1, c1, hcx, hr1, _⟩ := (ha1.below hM.b).at_ hlt
      obtain ⟨hl1, hn1⟩ := HT.out M[k] (List.getElem_mem hxk)
      rw [hl1] at hcx hr1
      have hap := apply_any p T n cT (transL N) A1 n c1 M[k] wr hp hp2 hn hn (hTr.below hM.b) HTT.out hr1 hn1
      have HV : Hid ((tab (k + 1) fun i => applyL p (transL N) (M.getD i [])) = (tab k fun i => applyL p (transL N) (M.getD i [])) ++ [applyL p (transL N) M[k]]) := Lib.hid (by rw [tab_succ, getD_of_lt [] hxk])
      have HM := Lib.hid hM
      clear hM hr1 hl1 hn1 hTr ha1
      go_wp2_with fail
      refine hap.mono ?_
      rintro e w5 ⟨A5, c5, rfl, hM5⟩
      clear hap
      go_wp2_with (at_builtin; refine wpList_appRow w1 wr _ rfl _ _ rfl A' k c' _ A5 n c5 _ HM.out hM5 (by omega) rfl ?_ ?_; (go_simp); intro A6 c6 w6 hM6)
      go_roundw
      case rel => exact ⟨k + 1, A6, c6, by omega, by go_num, rfl, by rw [HV.out]; exact hM6⟩
      case measure => simp [intOf]; omega
    · obtain rfl : k = n := by omega
      go_wp2
      go_ret
      exact ⟨_, _, rfl, by unfold timesM; rw [HL.out]; exact hM.after HB1.out⟩
set_option maxHeartbeats 1600000 in
set_option maxRecDepth 8000 in
theorem trace_any (p : Int) (A : Option Addr) (n c : Nat) (M : List (List Int)) (w : World) (hp : 2 ≤ p) (hp2 : p ≤ 13) (hn : n ≤ 65536) (ha : RdII w A n M) (hM : Tab p n M) :
    Calls Tryz.prog 205 #[.int .i64 p, .slice A n c] w fun e w' => e = .returned (.int .i64 (traceL p M)) ∧ w = w' := by
  have HL := Lib.hid ha.len
  have hsb : Hid (∀ j, j ≤ n → 0 ≤ (sumTo j fun i => ent M i i) ∧ (sumTo j fun i => ent M i i) ≤ 169 * (j : Int)) := Lib.hid (fun j hj => sumTo_169 (n := j) (f := fun i => ent M i i) fun i hi => by
    have := hM.ent (by omega) i i
    show 0 ≤ ent M i i ∧ ent M i i ≤ 169
    omega)
  have HT := Lib.hid hM
  clear hM
  go_enter Tryz.func205, Tryz.ntmps205
  go_wp2
  go_loopw [5, 9] (fun s i wr => ∃ j : Nat, j ≤ n ∧ i = .int .i64 j ∧ s = .int .i64 (sumTo j fun i => ent M i i) ∧ wr = w) (fun _ i _ => n - (intOf i).toNat)
  case atStart => exact ⟨0, by omega, rfl, rfl, rfl⟩
  case round =>
    obtain ⟨j, hj, rfl, rfl, rfl⟩ := hrel
    obtain ⟨b1, b2⟩ := hsb.out j hj
    have hsucc : Hid ((sumTo (j + 1) fun i => ent M i i) = (sumTo j fun i => ent M i i) + ent M j j) := Lib.hid (sumTo_succ _ _)
    have htr : Hid (j = n → traceL p M = (sumTo j fun i => ent M i i) % p) := Lib.hid (fun h => by unfold traceL; rw [HL.out, h])
    obtain ⟨s, hs⟩ : ∃ s, s = sumTo j fun i => ent M i i := ⟨_, rfl⟩
    rw [← hs] at b1 b2 hsucc htr ⊢
    clear hs
    by_cases hlt : j < n
    · obtain ⟨g, o, rfl, hxj, A1, c1, hcx, hr1, _⟩ := ha.at_ hlt
      obtain ⟨hl1, hn1⟩ := HT.out M[j] (List.getElem_mem hxj)
      rw [hl1] at hcx hr1
      obtain ⟨g2, o2, rfl, hxe, hce⟩ := hr1.int hlt
      obtain ⟨x1, x2⟩ := hn1 _ (List.getElem_mem hxe)
      have HV : Hid ((sumTo (j + 1) fun i => ent M i i) = s + M[j][j]) := Lib.hid (by rw [hsucc.out, ent_at hxj hxe])
      clear hr1 hl1 hn1 ha
      go_wp2
      go_roundw
      case rel => exact ⟨j + 1, by omega, by go_num, by rw [HV.out], trivial⟩
      case measure => simp [intOf]; omega
    · go_wp2_with fail
      refine (num_any p s _ (by omega) hp2 (by omega) (by omega)).mono ?_
      rintro e w' ⟨rfl, rfl⟩
      go_wp2
      go_ret
      exact ⟨ret_int (htr.out (by omega)).symm, rfl⟩
end Go.Proofs.YtggigolkncckoaaGreat
namespace Go.Proofs.YtggigolkncckoaaGreat
open Go.RowKit
theorem dotL_small {p : Int} (hp : 0 < p) (a b : List Int) : 0 ≤ dotL p a b ∧ dotL p a b < p := ⟨Int.emod_nonneg _ (by omega), Int.emod_lt_of_pos _ hp⟩
theorem timesM_tab {p : Int} {n : Nat} {M N : List (List Int)} (hp : 0 < p) (h0 : 0 < n) (hN : Tab p n N) (hNl : N.length = n) : Tab p n (timesM p M N) :=
  Tab.tab fun _ _ => ⟨by unfold applyL; rw [tab_len, transL_len hN (by omega)], NumsL.tab fun _ _ => dotL_small hp _ _⟩
theorem timesM_len (p : Int) (M N : List (List Int)) : (timesM p M N).length = M.length := tab_len _ _
/-- The matrix of a bivector. -/
def matL (P : Int) (sq : List Int) (n : Nat) (xs : List Int) : List (List Int) := transL (colsL P sq n xs)
theorem matL_tab {P : Int} (hp : 2 ≤ P) (sq : List Int) (n : Nat) (xs : List Int) : Tab P n (matL P sq n xs) := by
  have := transL_tab (show 0 < P by omega) (colsL_tab hp sq n xs)
  rwa [colsL_len] at this
theorem matL_len {P : Int} (hp : 2 ≤ P) (sq : List Int) {n : Nat} (h0 : 0 < n) (xs : List Int) : (matL P sq n xs).length = n := transL_len (colsL_tab hp sq n xs) (by rw [colsL_len]; exact h0)
/-- KillingForm. -/
def kfR (P : Int) (sq xs ys : List Int) : Int × Int := if codeB P sq [xs, ys] = 0 then (traceL P (timesM P (matL P sq sq.length xs) (matL P sq sq.length ys)), 0) else (0, codeB P sq [xs, ys])
theorem kfR_ok {P : Int} {sq xs ys : List Int} (h : codeB P sq [xs, ys] = 0) : kfR P sq xs ys = (traceL P (timesM P (matL P sq sq.length xs) (matL P sq sq.length ys)), 0) := by unfold kfR; rw [if_pos h]
theorem kfR_bad {P : Int} {sq xs ys : List Int} (h : ¬ codeB P sq [xs, ys] = 0) : kfR P sq xs ys = (0, codeB P sq [xs, ys]) := by unfold kfR; rw [if_neg h]
theorem ret_ii {R : Int × Int} {x y : Int} (h : R = (x, y)) : Ending.returned (.tuple #[.int .i64 x, .int .i64 y]) = .returned (.tuple #[.int .i64 R.1, .int .i64 R.2]) := by rw [h]
set_option maxHeartbeats 1600000 in
set_option maxRecDepth 8000 in
theorem KillingForm_any (P : Int) (A : Option Addr) (n c : Nat) (sq : List Int) (X : Option Addr) (m cx : Nat) (xs : List Int) (Y : Option Addr) (l cy : Nat) (ys : List Int) (w : World) (hn : n ≤ 1048576) (hm : m ≤ 1048576) (hl : l ≤ 1048576) (ha : Rd w A n (ints sq)) (hx : Rd w X m (ints xs)) (hcx : m ≤ cx) (hy : Rd w Y l (ints ys)) (hcy : l ≤ cy) :
    Calls Tryz.prog 64 #[.agg #[.int .i64 P, .slice A n c], .slice X m cx, .slice Y l cy] w fun e w' => e = .returned (.tuple #[.int .i64 (kfR P sq xs ys).1, .int .i64 (kfR P sq xs ys).2]) ∧ Below w.heap.size w w' := by
  have hB0 : Below w.heap.size w (w.alloc (.cells #[.int .i64 P, .slice A n c] 26)) := (Below.refl _ _).alloc (Nat.le_refl _) _
  have k0 : Blk (w.alloc (.cells #[.int .i64 P, .slice A n c] 26)) w.heap.size 26 #[.int .i64 P, .slice A n c] := Blk.new _ _ _
  have hB1 : Below w.heap.size w ((w.alloc (.cells #[.int .i64 P, .slice A n c] 26)).alloc (.cells #[.slice X m cx, .slice Y l cy] 24)) := hB0.alloc (by simp) _
  have k1 : Blk ((w.alloc (.cells #[.int .i64 P, .slice A n c] 26)).alloc (.cells #[.slice X m cx, .slice Y l cy] 24)) w.heap.size 26 #[.int .i64 P, .slice A n c] := k0.alloc _
  have hreg := checkBivectors_any P A (some ⟨w.heap.size + 1, 0, none⟩) n c 2 2 sq [xs, ys] ((w.alloc (.cells #[.int .i64 P, .slice A n c] 26)).alloc (.cells #[.slice X m cx, .slice Y l cy] 24)) hn (by omega) (ha.below hB1) (rdII_two (Blk.newAt (by simp)) (hx.below hB1) (hy.below hB1) hcx hcy) (all_two (by rw [hx.lenI]; exact hm) (by rw [hy.lenI]; exact hl))
  by_cases hr0 : codeB P sq [xs, ys] = 0
  · skip
    obtain ⟨HP, hp3, hp2, hd1, hd2, hs0, hms⟩ := codeM_spec2 (codeR_zero2 (codeB_zero hr0))
    have hsl := ha.lenI
    obtain ⟨hx1, hxs0⟩ := hms xs (by simp)
    obtain ⟨hy1, hys0⟩ := hms ys (by simp)
    have hmx : m = pw n := by rw [← hx.lenI, hx1, hsl]
    have hly : l = pw n := by rw [← hy.lenI, hy1, hsl]
    subst hmx
    subst hly
    rw [hr0] at hreg
    have HR0 := Lib.hid hr0
    have HSL := Lib.hid hsl
    have HS0 := Lib.hid hs0
    have HXS := Lib.hid hxs0
    have HYS := Lib.hid hys0
    have hn6 : n ≤ 6 := by omega
    have hn0 : 0 < n := by omega
    clear hr0 hsl hms hx1 hy1 hs0 hxs0 hys0 hd1 hd2
    go_enter Tryz.func64, Tryz.ntmps64
    go_wp2_with fail
    refine hreg.mono ?_
    rintro e w2 ⟨rfl, hb2⟩
    have hB2 := hB1.trans (hb2.mono hB1.size)
    have k2 := k1.below hb2 k1.lt
    obtain ⟨q0, q1⟩ := k2.two
    clear k0 hB0 k1 hB1 hb2
    clear hn
    have hn := hn6
    have hp : 2 ≤ P := by omega
    have hs := HS0.out
    have hxs := HXS.out
    have hys := HYS.out
    have HPW : pw n ≤ 65536 := Nat.le_trans (pw_le (show n ≤ 10 by omega)) (by decide)
    go_wp2
    refine wp_obs 14 [[], [0], [], [2], [], [], [4, 5], [], [], [7, 8], [2, 3, 4, 5, 6, 7, 8, 9], [0, 1, 2, 3, 4, 5, 6, 7, 8, 9, 10], [0, 1, 2, 3, 4, 5, 6, 7, 8, 9, 10, 11], []] [VIs (.agg #[.int .i64 P, .slice A n c]), VIs (.int .i64 P), VIs (.agg #[.int .i64 P, .slice A n c]), VIs (.int .i64 P), VIs (.agg #[.int .i64 P, .slice A n c]), VIs (.slice X (pw n) cx), VMat w (n) (matL P sq n xs), VIs (.agg #[.int .i64 P, .slice A n c]), VIs (.slice Y (pw n) cy), VMat w (n) (matL P sq n ys), VMat w (n) (timesM P (matL P sq n xs) (matL P sq n ys)), VIs (.int .i64 (traceL P (timesM P (matL P sq n xs) (matL P sq n ys)))), VIs (.int .i64 (traceL P (timesM P (matL P sq n xs) (matL P sq n ys)))), VIs (.int .i64 0)] (fun w' => Blk w' w.heap.size 26 #[.int .i64 P, .slice A n c] ∧ Below w.heap.size w w') (by kernel_rfl) (by kernel_rfl) (fun _ _ h hb => ⟨h.1.below hb h.1.lt, h.2.trans (hb.mono h.2.size)⟩) (⟨k2.drew, hB2.drew⟩) (fun x => ?_)
    refine obs_step (Eq.trans (by simp only [List.getElem?_toArray, List.getElem?_cons_zero]; exact rfl) rfl) rfl (fun w' hS hV K hK => ?_) ?_
    · obtain ⟨q0, q1⟩ := hS.1.two
      go_simp
      exact hK.out _ _ _ rfl rfl rfl (Below.refl _ _)
    simp only [List.setIfInBounds_toArray, List.set_cons_zero, List.set_cons_succ]
    refine obs_step (Eq.trans (by simp only [List.getElem?_toArray, List.getElem?_cons_succ, List.getElem?_cons_zero]; exact rfl) rfl) rfl (fun w' hS hV K hK => ?_) ?_
    · have e0 : x 0 = (.agg #[.int .i64 P, .slice A n c]) := hV 0 (by decide)
      obtain ⟨q0, q1⟩ := hS.1.two
      go_simp
      refine (field_any _ _ _ _ _).mono ?_
      rintro e w1 ⟨rfl, hb⟩
      exact hK.out _ _ _ rfl rfl rfl hb
    simp only [List.setIfInBounds_toArray, List.set_cons_zero, List.set_cons_succ]
    refine obs_step (Eq.trans (by simp only [List.getElem?_toArray, List.getElem?_cons_succ, List.getElem?_cons_zero]; exact rfl) rfl) rfl (fun w' hS hV K hK => ?_) ?_
    · obtain ⟨q0, q1⟩ := hS.1.two
      go_simp
      exact hK.out _ _ _ rfl rfl rfl (Below.refl _ _)
    simp only [List.setIfInBounds_toArray, List.set_cons_zero, List.set_cons_succ]
    refine obs_step (Eq.trans (by simp only [List.getElem?_toArray, List.getElem?_cons_succ, List.getElem?_cons_zero]; exact rfl) rfl) rfl (fun w' hS hV K hK => ?_) ?_
    · have e2 : x 2 = (.agg #[.int .i64 P, .slice A n c]) := hV 2 (by decide)
      obtain ⟨q0, q1⟩ := hS.1.two
      go_simp
      refine (field_any _ _ _ _ _).mono ?_
      rintro e w1 ⟨rfl, hb⟩
      exact hK.out _ _ _ rfl rfl rfl hb
    simp only [List.setIfInBounds_toArray, List.set_cons_zero, List.set_cons_succ]
    refine obs_step (Eq.trans (by simp only [List.getElem?_toArray, List.getElem?_cons_succ, List.getElem?_cons_zero]; exact rfl) rfl) rfl (fun w' hS hV K hK => ?_) ?_
    · obtain ⟨q0, q1⟩ := hS.1.two
      go_simp
      exact hK.out _ _ _ rfl rfl rfl (Below.refl _ _)
    simp only [List.setIfInBounds_toArray, List.set_cons_zero, List.set_cons_succ]
    refine obs_step (Eq.trans (by simp only [List.getElem?_toArray, List.getElem?_cons_succ, List.getElem?_cons_zero]; exact rfl) rfl) rfl (fun w' hS hV K hK => ?_) ?_
    · obtain ⟨q0, q1⟩ := hS.1.two
      go_simp
      exact hK.out _ _ _ rfl rfl rfl (Below.refl _ _)
    simp only [List.setIfInBounds_toArray, List.set_cons_zero, List.set_cons_succ]
    refine obs_step (Eq.trans (by simp only [List.getElem?_toArray, List.getElem?_cons_succ, List.getElem?_cons_zero]; exact rfl) rfl) rfl (fun w' hS hV K hK => ?_) ?_
    · have e4 : x 4 = (.agg #[.int .i64 P, .slice A n c]) := hV 4 (by decide)
      have e5 : x 5 = (.slice X (pw n) cx) := hV 5 (by decide)
      obtain ⟨q0, q1⟩ := hS.1.two
      go_simp
      refine (turning_any P A n c sq _ _ xs _ hp hp2 hn hn0 (ha.below hS.2) hs (hx.below hS.2) hxs hcx HP).mono ?_
      rintro e w1 ⟨A2, c2, rfl, hM⟩
      exact hK.out _ _ _ rfl rfl ⟨_, _, rfl, hM.after hS.2⟩ hM.b
    simp only [List.setIfInBounds_toArray, List.set_cons_zero, List.set_cons_succ]
    refine obs_step (Eq.trans (by simp only [List.getElem?_toArray, List.getElem?_cons_succ, List.getElem?_cons_zero]; exact rfl) rfl) rfl (fun w' hS hV K hK => ?_) ?_
    · obtain ⟨q0, q1⟩ := hS.1.two
      go_simp
      exact hK.out _ _ _ rfl rfl rfl (Below.refl _ _)
    simp only [List.setIfInBounds_toArray, List.set_cons_zero, List.set_cons_succ]
    refine obs_step (Eq.trans (by simp only [List.getElem?_toArray, List.getElem?_cons_succ, List.getElem?_cons_zero]; exact rfl) rfl) rfl (fun w' hS hV K hK => ?_) ?_
    · obtain ⟨q0, q1⟩ := hS.1.two
      go_simp
      exact hK.out _ _ _ rfl rfl rfl (Below.refl _ _)
    simp only [List.setIfInBounds_toArray, List.set_cons_zero, List.set_cons_succ]
    refine obs_step (Eq.trans (by simp only [List.getElem?_toArray, List.getElem?_cons_succ, List.getElem?_cons_zero]; exact rfl) rfl) rfl (fun w' hS hV K hK => ?_) ?_
    · have e7 : x 7 = (.agg #[.int .i64 P, .slice A n c]) := hV 7 (by decide)
      have e8 : x 8 = (.slice Y (pw n) cy) := hV 8 (by decide)
      obtain ⟨q0, q1⟩ := hS.1.two
      go_simp
      refine (turning_any P A n c sq _ _ ys _ hp hp2 hn hn0 (ha.below hS.2) hs (hy.below hS.2) hys hcy HP).mono ?_
      rintro e w1 ⟨A2, c2, rfl, hM⟩
      exact hK.out _ _ _ rfl rfl ⟨_, _, rfl, hM.after hS.2⟩ hM.b
    simp only [List.setIfInBounds_toArray, List.set_cons_zero, List.set_cons_succ]
    refine obs_step (Eq.trans (by simp only [List.getElem?_toArray, List.getElem?_cons_succ, List.getElem?_cons_zero]; exact rfl) rfl) rfl (fun w' hS hV K hK => ?_) ?_
    · have e2 : x 2 = (.agg #[.int .i64 P, .slice A n c]) := hV 2 (by decide)
      have e3 : x 3 = (.int .i64 P) := hV 3 (by decide)
      have e4 : x 4 = (.agg #[.int .i64 P, .slice A n c]) := hV 4 (by decide)
      have e5 : x 5 = (.slice X (pw n) cx) := hV 5 (by decide)
      obtain ⟨A6, c6, e6, h6⟩ := hV 6 (by decide)
      have e7 : x 7 = (.agg #[.int .i64 P, .slice A n c]) := hV 7 (by decide)
      have e8 : x 8 = (.slice Y (pw n) cy) := hV 8 (by decide)
      obtain ⟨A9, c9, e9, h9⟩ := hV 9 (by decide)
      obtain ⟨q0, q1⟩ := hS.1.two
      go_simp
      refine (timesM_any P _ n _ (matL P sq n xs) _ _ (matL P sq n ys) _ hp hp2 hn0 (by omega) h6.rd (matL_tab hp sq n xs) h9.rd (matL_tab hp sq n ys)).mono ?_
      rintro e w1 ⟨A2, c2, rfl, hM⟩
      exact hK.out _ _ _ rfl rfl ⟨_, _, rfl, hM.after hS.2⟩ hM.b
    simp only [List.setIfInBounds_toArray, List.set_cons_zero, List.set_cons_succ]
    refine obs_step (Eq.trans (by simp only [List.getElem?_toArray, List.getElem?_cons_succ, List.getElem?_cons_zero]; exact rfl) rfl) rfl (fun w' hS hV K hK => ?_) ?_
    · have e0 : x 0 = (.agg #[.int .i64 P, .slice A n c]) := hV 0 (by decide)
      have e1 : x 1 = (.int .i64 P) := hV 1 (by decide)
      have e2 : x 2 = (.agg #[.int .i64 P, .slice A n c]) := hV 2 (by decide)
      have e3 : x 3 = (.int .i64 P) := hV 3 (by decide)
      have e4 : x 4 = (.agg #[.int .i64 P, .slice A n c]) := hV 4 (by decide)
      have e5 : x 5 = (.slice X (pw n) cx) := hV 5 (by decide)
      obtain ⟨A6, c6, e6, h6⟩ := hV 6 (by decide)
      have e7 : x 7 = (.agg #[.int .i64 P, .slice A n c]) := hV 7 (by decide)
      have e8 : x 8 = (.slice Y (pw n) cy) := hV 8 (by decide)
      obtain ⟨A9, c9, e9, h9⟩ := hV 9 (by decide)
      obtain ⟨A10, c10, e10, h10⟩ := hV 10 (by decide)
      obtain ⟨q0, q1⟩ := hS.1.two
      go_simp
      refine (trace_any P _ n _ (timesM P (matL P sq n xs) (matL P sq n ys)) _ hp hp2 (by omega) h10.rd (timesM_tab (by omega) hn0 (matL_tab hp sq n ys) (matL_len hp sq hn0 ys))).mono ?_
      rintro e w1 ⟨rfl, rfl⟩
      exact hK.out _ _ _ rfl rfl rfl (Below.refl _ _)
    simp only [List.setIfInBounds_toArray, List.set_cons_zero, List.set_cons_succ]
    refine obs_step (Eq.trans (by simp only [List.getElem?_toArray, List.getElem?_cons_succ, List.getElem?_cons_zero]; exact rfl) rfl) rfl (fun w' hS hV K hK => ?_) ?_
    · have e0 : x 0 = (.agg #[.int .i64 P, .slice A n c]) := hV 0 (by decide)
      have e1 : x 1 = (.int .i64 P) := hV 1 (by decide)
      have e2 : x 2 = (.agg #[.int .i64 P, .slice A n c]) := hV 2 (by decide)
      have e3 : x 3 = (.int .i64 P) := hV 3 (by decide)
      have e4 : x 4 = (.agg #[.int .i64 P, .slice A n c]) := hV 4 (by decide)
      have e5 : x 5 = (.slice X (pw n) cx) := hV 5 (by decide)
      obtain ⟨A6, c6, e6, h6⟩ := hV 6 (by decide)
      have e7 : x 7 = (.agg #[.int .i64 P, .slice A n c]) := hV 7 (by decide)
      have e8 : x 8 = (.slice Y (pw n) cy) := hV 8 (by decide)
      obtain ⟨A9, c9, e9, h9⟩ := hV 9 (by decide)
      obtain ⟨A10, c10, e10, h10⟩ := hV 10 (by decide)
      have e11 : x 11 = (.int .i64 (traceL P (timesM P (matL P sq n xs) (matL P sq n ys)))) := hV 11 (by decide)
      obtain ⟨q0, q1⟩ := hS.1.two
      go_simp
      exact hK.out _ _ _ rfl rfl rfl (Below.refl _ _)
    simp only [List.setIfInBounds_toArray, List.set_cons_zero, List.set_cons_succ]
    refine obs_step (Eq.trans (by simp only [List.getElem?_toArray, List.getElem?_cons_succ, List.getElem?_cons_zero]; exact rfl) rfl) rfl (fun w' hS hV K hK => ?_) ?_
    · obtain ⟨q0, q1⟩ := hS.1.two
      go_simp
      exact hK.out _ _ _ rfl rfl rfl (Below.refl _ _)
    simp only [List.setIfInBounds_toArray, List.set_cons_zero, List.set_cons_succ]
    refine fun w' hS hV => ?_
    have e0 : x 0 = (.agg #[.int .i64 P, .slice A n c]) := hV 0 (by decide)
    have e1 : x 1 = (.int .i64 P) := hV 1 (by decide)
    have e2 : x 2 = (.agg #[.int .i64 P, .slice A n c]) := hV 2 (by decide)
    have e3 : x 3 = (.int .i64 P) := hV 3 (by decide)
    have e4 : x 4 = (.agg #[.int .i64 P, .slice A n c]) := hV 4 (by decide)
    have e5 : x 5 = (.slice X (pw n) cx) := hV 5 (by decide)
    obtain ⟨A6, c6, e6, h6⟩ := hV 6 (by decide)
    have e7 : x 7 = (.agg #[.int .i64 P, .slice A n c]) := hV 7 (by decide)
    have e8 : x 8 = (.slice Y (pw n) cy) := hV 8 (by decide)
    obtain ⟨A9, c9, e9, h9⟩ := hV 9 (by decide)
    obtain ⟨A10, c10, e10, h10⟩ := hV 10 (by decide)
    have e11 : x 11 = (.int .i64 (traceL P (timesM P (matL P sq n xs) (matL P sq n ys)))) := hV 11 (by decide)
    have e12 : x 12 = (.int .i64 (traceL P (timesM P (matL P sq n xs) (matL P sq n ys)))) := hV 12 (by decide)
    have e13 : x 13 = (.int .i64 0) := hV 13 (by decide)
    simp only [e0, e1, e2, e3, e4, e5, e6, e7, e8, e9, e10, e11, e12, e13]
    clear e0 e1 e2 e3 e4 e5 e6 e7 e8 e9 e10 e11 e12 e13
    refine wpAny_done (by kernel_rfl) ?_ _
    go_wp2
    go_ret2
    exact ⟨ret_ii (by rw [kfR_ok HR0.out, HSL.out]), hS.2⟩
  · obtain ⟨r, hr⟩ : ∃ r, r = codeB P sq [xs, ys] := ⟨_, rfl⟩
    have HR := Lib.hid hr
    have HR0 := Lib.hid hr0
    have b0 : (r != 0) = true := code_ne (by rw [hr]; exact hr0)
    rw [← hr] at hreg
    clear hr hr0
    go_enter Tryz.func64, Tryz.ntmps64
    go_wp2_with fail
    refine hreg.mono ?_
    rintro e w2 ⟨rfl, hb2⟩
    have hB2 := hB1.trans (hb2.mono hB1.size)
    have k2 := k1.below hb2 k1.lt
    obtain ⟨q0, q1⟩ := k2.two
    clear k0 hB0 k1 hB1 hb2
    go_wp2
    go_ret2
    exact ⟨ret_ii (by rw [kfR_bad HR0.out, HR.out]), hB2⟩
end Go.Proofs.YtggigolkncckoaaGreat

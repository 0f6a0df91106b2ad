/-
  LawFnBlades: part 7 of the texts that the proof needs. No condition.
-/
import Derived.Test.YtggigolkncckoaaGreatP6
namespace Go.Proofs.YtggigolkncckoaaGreat
open Go.RowKit
/-- A function of lists of n numbers is linear, but for multiples of P. -/
def LinF (P : Int) (n : Nat) (F : List Int → Int) : Prop := ∀ v : List Int, v.length = n → NumsL P v → F v % P = (sumTo n fun k => F (unitRow n k) * v.getD k 0) % P
section
variable {P : Int} {n : Nat} {F G : List Int → Int}
theorem LinF.congr (hp : 2 ≤ P) (h : LinF P n F) (he : ∀ v : List Int, v.length = n → NumsL P v → G v % P = F v % P) : LinF P n G := fun v hv hn => by
  rw [he v hv hn, h v hv hn]
  refine sumTo_mod P fun k _ => ?_
  rw [Int.mul_emod, ← he _ (unitRow_len n k) (unitRow_nums hp n k), ← Int.mul_emod]
theorem LinF.mul (h : LinF P n F) (c : Int) : LinF P n (fun v => c * F v) := fun v hv hn => by
  show c * F v % P = _
  rw [Int.mul_emod, h v hv hn, ← Int.mul_emod, ← sumTo_mul]
  refine sumTo_mod P fun k _ => ?_
  rw [Int.mul_assoc]
theorem LinF.add (h : LinF P n F) (h' : LinF P n G) : LinF P n (fun v => F v + G v) := fun v hv hn => by
  show (F v + G v) % P = _
  rw [Int.add_emod, h v hv hn, h' v hv hn, ← Int.add_emod, ← sumTo_add]
  refine sumTo_mod P fun k _ => ?_
  rw [Int.add_mul]
theorem LinF.zero : LinF P n (fun _ => 0) := fun v _ _ => by
  show (0 : Int) % P = _
  rw [sumTo_zero fun k _ => by simp]
theorem LinF.sum {H : Nat → List Int → Int} : ∀ (N : Nat), (∀ a, a < N → LinF P n (H a)) → LinF P n (fun v => sumTo N fun a => H a v)
  | 0, _ => LinF.zero
  | N + 1, h => (LinF.sum N fun a ha => h a (by omega)).add (h N (by omega))
end
/-- Where a vector's numbers lie in its multivector. -/
theorem vecTo_getD {n : Nat} (v : List Int) {b : Nat} (hb : b < pw n) : ∀ k, k ≤ n → (vecTo n v k).getD b 0 = sumTo k fun i => if b = 2 ^ i then v.getD i 0 else 0 := by
  intro k
  induction k with
  | zero => intro _; simp [vecTo, sumTo, List.getD_eq_getElem?_getD, hb]
  | succ k ih =>
    intro hk
    rw [vecTo_succ, sumTo_succ, List.getD_eq_getElem?_getD, List.getElem?_set]
    have hl : 2 ^ k < (vecTo n v k).length := by rw [vecTo_len]; exact two_lt (by omega)
    by_cases h : b = 2 ^ k
    · rw [if_pos h.symm, if_pos hl, if_pos h]
      have h0 : (sumTo k fun i => if b = 2 ^ i then v.getD i 0 else 0) = 0 := sumTo_zero fun i hi => by
        rw [if_neg]
        intro e
        have : 2 ^ i < 2 ^ k := Nat.pow_lt_pow_right (by omega) hi
        omega
      rw [h0]
      simp
    · rw [if_neg (fun e => h e.symm), if_neg h, ← ih (by omega), Int.add_zero, List.getD_eq_getElem?_getD]
theorem unitRow_getD {n k i : Nat} (hi : i < n) : (unitRow n k).getD i 0 = if k = i then 1 else 0 := by
  unfold unitRow
  rw [List.getD_eq_getElem?_getD, List.getElem?_set]
  by_cases h : k = i
  · rw [if_pos h, if_pos (by simp; omega), if_pos h]; rfl
  · rw [if_neg h, if_neg h, List.getElem?_replicate, if_pos hi]; rfl
theorem LinF.vec {P : Int} {n b : Nat} (hb : b < pw n) : LinF P n (fun v => (vecTo n v n).getD b 0) := fun v _ _ => by
  show (vecTo n v n).getD b 0 % P = _
  rw [vecTo_getD v hb n (Nat.le_refl _)]
  refine sumTo_mod P fun k hk => ?_
  show _ = (vecTo n (unitRow n k) n).getD b 0 * v.getD k 0 % P
  rw [vecTo_getD _ hb n (Nat.le_refl _)]
  congr 1
  rw [sumTo_one k hk fun i hi hne => by
    split
    · rw [unitRow_getD hi, if_neg (fun e => hne e.symm)]
    · rfl]
  rw [unitRow_getD hk, if_pos rfl]
  split
  · simp
  · simp
end Go.Proofs.YtggigolkncckoaaGreat
namespace Go.Proofs.YtggigolkncckoaaGreat
theorem bit_eq (a i : Nat) : bit a i = (a.testBit i).toNat := by
  unfold bit
  rw [Nat.testBit_eq_decide_div_mod_eq]
  rcases Nat.mod_two_eq_zero_or_one (a / 2 ^ i) with h | h <;> rw [h] <;> rfl
theorem bit_le (a i : Nat) : bit a i < 2 := by unfold bit; exact Nat.mod_lt _ (by decide)
theorem bit_xor (a b i : Nat) : bit (a ^^^ b) i = (bit a i + bit b i) % 2 := by
  rw [bit_eq, bit_eq, bit_eq, Nat.testBit_xor]
  cases a.testBit i <;> cases b.testBit i <;> rfl
/-- The number of the first k bits. -/
def pcn (a : Nat) : Nat → Nat
  | 0 => 0
  | k + 1 => pcn a k + bit a k
theorem bit_half (a i : Nat) : bit (a / 2) i = bit a (i + 1) := by
  unfold bit
  rw [Nat.div_div_eq_div_mul, Nat.pow_succ, Nat.mul_comm]
theorem pcn_half (a : Nat) : ∀ k, pcn a (k + 1) = a % 2 + pcn (a / 2) k := by
  intro k
  induction k with
  | zero => simp [pcn, bit]
  | succ k ih =>
    rw [pcn, ih, pcn, bit_half, Nat.add_assoc]
theorem pc_pcn : ∀ (k a : Nat), a < 2 ^ k → pc a = pcn a k := by
  intro k
  induction k with
  | zero =>
    intro a h
    obtain rfl : a = 0 := by omega
    rw [pc_zero]; rfl
  | succ k ih =>
    intro a h
    rw [pc_rec, pcn_half, ih _ (by rw [Nat.pow_succ] at h; omega)]
theorem pcn_xor (a b : Nat) : ∀ k, pcn (a ^^^ b) k % 2 = (pcn a k + pcn b k) % 2 := by
  intro k
  induction k with
  | zero => rfl
  | succ k ih =>
    simp only [pcn]
    rw [bit_xor]
    omega
theorem pc_xor (a b : Nat) : pc (a ^^^ b) % 2 = (pc a + pc b) % 2 := by
  obtain ⟨k, ha, hb⟩ : ∃ k, a < 2 ^ k ∧ b < 2 ^ k :=
    ⟨a + b, Nat.lt_of_le_of_lt (Nat.le_add_right a b) Nat.lt_two_pow_self, Nat.lt_of_le_of_lt (Nat.le_add_left b a) Nat.lt_two_pow_self⟩
  rw [pc_pcn k _ (Nat.xor_lt_two_pow ha hb), pc_pcn k _ ha, pc_pcn k _ hb]
  exact pcn_xor a b k
theorem xor_div (a b k : Nat) : (a ^^^ b) / 2 ^ k = (a / 2 ^ k) ^^^ (b / 2 ^ k) := by
  rw [← Nat.shiftRight_eq_div_pow, ← Nat.shiftRight_eq_div_pow, ← Nat.shiftRight_eq_div_pow]
  exact Nat.shiftRight_xor_distrib
theorem swaps_left (a c b : Nat) : ∀ n, swaps (a ^^^ c) b n % 2 = (swaps a b n + swaps c b n) % 2 := by
  intro n
  induction n with
  | zero => rfl
  | succ n ih =>
    simp only [swaps]
    by_cases h : bit b n = 1
    · simp only [if_pos h]
      have := pc_xor (a / 2 ^ (n + 1)) (c / 2 ^ (n + 1))
      rw [xor_div]
      omega
    · simp only [if_neg h]; omega
theorem swaps_right (a b c : Nat) : ∀ n, swaps a (b ^^^ c) n % 2 = (swaps a b n + swaps a c n) % 2 := by
  intro n
  induction n with
  | zero => rfl
  | succ n ih =>
    simp only [swaps]
    rw [bit_xor]
    have h1 := bit_le b n
    have h2 := bit_le c n
    rcases (show bit b n = 0 ∨ bit b n = 1 by omega) with e1 | e1 <;> rcases (show bit c n = 0 ∨ bit c n = 1 by omega) with e2 | e2 <;> simp [e1, e2] <;> omega
/-- 1 or -1: the sign of a number of exchanges. -/
def sg (k : Nat) : Int := if k % 2 = 1 then -1 else 1
theorem sg_add (k l : Nat) : sg (k + l) = sg k * sg l := by
  unfold sg
  rcases Nat.mod_two_eq_zero_or_one k with h | h <;> rcases Nat.mod_two_eq_zero_or_one l with h' | h' <;> simp [Nat.add_mod, h, h']
theorem sg_congr {k l : Nat} (h : k % 2 = l % 2) : sg k = sg l := by unfold sg; rw [h]
theorem sg_two (k : Nat) : sg k * sg k = 1 := by
  unfold sg
  split <;> rfl
/-- The product of the first i squares that both masks have, as an integer. -/
def comZ (sq : List Int) (a b : Nat) : Nat → Int
  | 0 => 1
  | i + 1 => comZ sq a b i * (if bit b i = 1 ∧ bit a i = 1 then sq.getD i 0 else 1)
theorem common_comZ (p : Int) (sq : List Int) (a b : Nat) : ∀ i, common p sq a b i % p = comZ sq a b i % p := by
  intro i
  induction i with
  | zero => rfl
  | succ i ih =>
    simp only [common, comZ]
    split
    · rw [Int.emod_emod_of_dvd _ (Int.dvd_refl p), Int.mul_emod, ih, ← Int.mul_emod]
    · rw [Int.mul_one, ih]
theorem comZ_symm (sq : List Int) (a b : Nat) : ∀ i, comZ sq a b i = comZ sq b a i := by
  intro i
  induction i with
  | zero => rfl
  | succ i ih => simp only [comZ]; rw [ih]; congr 1; simp only [And.comm]
theorem comZ_cocycle (sq : List Int) (a b c : Nat) : ∀ i, comZ sq a b i * comZ sq (a ^^^ b) c i = comZ sq b c i * comZ sq a (b ^^^ c) i := by
  intro i
  induction i with
  | zero => rfl
  | succ i ih =>
    simp only [comZ]
    rw [bit_xor, bit_xor]
    have key : ∀ X Y Z W s t u v : Int, X * Y = Z * W → s * t = u * v → (X * s) * (Y * t) = (Z * u) * (W * v) := fun X Y Z W s t u v h1 h2 => by
      rw [show (X * s) * (Y * t) = (X * Y) * (s * t) by rw [Int.mul_assoc, Int.mul_left_comm s, ← Int.mul_assoc], h1, h2]
      rw [Int.mul_assoc, Int.mul_left_comm W, ← Int.mul_assoc]
    refine key _ _ _ _ _ _ _ _ ih ?_
    have h1 := bit_le a i
    have h2 := bit_le b i
    have h3 := bit_le c i
    rcases (show bit a i = 0 ∨ bit a i = 1 by omega) with e1 | e1 <;> rcases (show bit b i = 0 ∨ bit b i = 1 by omega) with e2 | e2 <;> rcases (show bit c i = 0 ∨ bit c i = 1 by omega) with e3 | e3 <;> simp [e1, e2, e3]
/-- The number by which the product of two blades is that of their different bits, as an integer. -/
def facZ (sq : List Int) (a b : Nat) : Int := sg (swaps a b sq.length) * comZ sq a b sq.length
theorem fac_facZ (p : Int) (sq : List Int) (a b : Nat) : fac p sq a b % p = facZ sq a b % p := by
  unfold fac facZ sg
  split
  · rw [Int.emod_emod_of_dvd _ (Int.dvd_refl p), Int.neg_mul, Int.one_mul, ← Int.zero_sub, ← Int.zero_sub, Int.sub_emod, common_comZ, ← Int.sub_emod]
  · rw [Int.one_mul, common_comZ]
theorem facZ_cocycle (sq : List Int) (a b c : Nat) : facZ sq a b * facZ sq (a ^^^ b) c = facZ sq b c * facZ sq a (b ^^^ c) := by
  unfold facZ
  have hs : sg (swaps a b sq.length) * sg (swaps (a ^^^ b) c sq.length) = sg (swaps b c sq.length) * sg (swaps a (b ^^^ c) sq.length) := by
    rw [← sg_add, ← sg_add]
    apply sg_congr
    have h1 := swaps_left a b c sq.length
    have h2 := swaps_right a b c sq.length
    omega
  have hc := comZ_cocycle sq a b c sq.length
  have key : ∀ X Y Z W s t u v : Int, X * Y = Z * W → s * t = u * v → (X * s) * (Y * t) = (Z * u) * (W * v) := fun X Y Z W s t u v h1 h2 => by
    rw [show (X * s) * (Y * t) = (X * Y) * (s * t) by rw [Int.mul_assoc, Int.mul_left_comm s, ← Int.mul_assoc], h1, h2]
    rw [Int.mul_assoc, Int.mul_left_comm W, ← Int.mul_assoc]
  exact key _ _ _ _ _ _ _ _ hs hc
theorem xor_self_left (a b : Nat) : a ^^^ (a ^^^ b) = b := by rw [← Nat.xor_assoc, Nat.xor_self, Nat.zero_xor]
theorem xor_self_right (a b : Nat) : (b ^^^ a) ^^^ a = b := by rw [Nat.xor_assoc, Nat.xor_self, Nat.xor_zero]
theorem sumTo_xor {n : Nat} (f : Nat → Int) {c : Nat} (hc : c < pw n) : sumTo (pw n) f = sumTo (pw n) fun a => f (a ^^^ c) := by
  have h : ∀ b, b < pw n → f b = sumTo (pw n) fun a => if a ^^^ c = b then f b else 0 := fun b hb => by
    rw [sumTo_one (b ^^^ c) (xor_lt hb hc) fun i _ hne => if_neg fun e => hne (by rw [← e, xor_self_right]), if_pos (xor_self_right c b)]
  rw [sumTo_congr h, sumTo_comm]
  refine sumTo_congr fun a ha => ?_
  rw [sumTo_one (a ^^^ c) (xor_lt ha hc) fun i _ hne => if_neg fun e => hne e.symm, if_pos rfl]
theorem sumTo_mul_right (n : Nat) (f : Nat → Int) (c : Int) : sumTo n (fun i => f i * c) = sumTo n f * c := by
  rw [Int.mul_comm, ← sumTo_mul]
  exact sumTo_congr fun i _ => Int.mul_comm _ _
/-- The product of multivectors over the integers, at place m. -/
def mulZ (sq : List Int) (x y : Nat → Int) (m : Nat) : Int := sumTo (pw sq.length) fun a => x a * y (a ^^^ m) * facZ sq a (a ^^^ m)
theorem mulZ_assoc (sq : List Int) (x y z : Nat → Int) {m : Nat} (hm : m < pw sq.length) : mulZ sq (mulZ sq x y) z m = mulZ sq x (mulZ sq y z) m := by
  unfold mulZ
  rw [sumTo_congr (g := fun c => sumTo (pw sq.length) fun a => x a * y (a ^^^ c) * facZ sq a (a ^^^ c) * (z (c ^^^ m) * facZ sq c (c ^^^ m))) fun c _ => by
    rw [sumTo_mul_right, Int.mul_assoc], sumTo_comm]
  refine sumTo_congr fun a ha => ?_
  rw [sumTo_xor _ ha, ← sumTo_mul, ← sumTo_mul_right]
  refine sumTo_congr fun b hb => ?_
  have e1 : a ^^^ (b ^^^ a) = b := by rw [Nat.xor_comm b, xor_self_left]
  have e2 : (b ^^^ a) ^^^ m = b ^^^ (a ^^^ m) := Nat.xor_assoc _ _ _
  rw [e1, e2]
  have h := facZ_cocycle sq a b (b ^^^ (a ^^^ m))
  rw [xor_self_left, Nat.xor_comm a b] at h
  calc x a * y b * facZ sq a b * (z (b ^^^ (a ^^^ m)) * facZ sq (b ^^^ a) (b ^^^ (a ^^^ m)))
      = x a * y b * z (b ^^^ (a ^^^ m)) * (facZ sq a b * facZ sq (b ^^^ a) (b ^^^ (a ^^^ m))) := by
        rw [Int.mul_assoc (x a * y b), Int.mul_left_comm (facZ sq a b), ← Int.mul_assoc]
    _ = x a * y b * z (b ^^^ (a ^^^ m)) * (facZ sq b (b ^^^ (a ^^^ m)) * facZ sq a (a ^^^ m)) := by rw [h]
    _ = _ := by
        rw [← Int.mul_assoc, Int.mul_assoc (x a), Int.mul_assoc (x a)]
theorem mulZ_cg (p : Int) (sq : List Int) {x x' y y' : Nat → Int} (hx : ∀ a, a < pw sq.length → x a % p = x' a % p) (hy : ∀ a, a < pw sq.length → y a % p = y' a % p) {m : Nat} (hm : m < pw sq.length) : mulZ sq x y m % p = mulZ sq x' y' m % p := by
  unfold mulZ
  refine sumTo_mod p fun a ha => ?_
  have h1 := hx a ha
  have h2 := hy _ (xor_lt ha hm)
  rw [Int.mul_emod, Int.mul_emod (x a), h1, h2, ← Int.mul_emod (x' a), ← Int.mul_emod]
structure Cl (p : Int) (sq : List Int) where
  l : List Int
  len : l.length = pw sq.length
  nums : NumsL p l
  pos : 0 < p
section
variable {p : Int} {sq : List Int}
/-- The number at a place. -/
def Cl.co (x : Cl p sq) (m : Nat) : Int := x.l.getD m 0
theorem Cl.ext {x y : Cl p sq} (h : x.l = y.l) : x = y := by
  cases x; cases y; cases h; rfl
theorem Cl.co_small (x : Cl p sq) (m : Nat) : 0 ≤ x.co m ∧ x.co m < p := x.nums.getD x.pos m
theorem Cl.co_mod (x : Cl p sq) (m : Nat) : x.co m % p = x.co m := Int.emod_eq_of_lt (x.co_small m).1 (x.co_small m).2
theorem Cl.same {x y : Cl p sq} (h : ∀ m, m < pw sq.length → x.co m % p = y.co m % p) : x = y := by
  refine Cl.ext (list_ext_getD 0 (by rw [x.len, y.len]) fun m hm => ?_)
  have := h m (by rw [← x.len]; exact hm)
  rwa [x.co_mod, y.co_mod] at this
/-- The multivector with these numbers. -/
def Cl.of (hp : 0 < p) (f : Nat → Int) : Cl p sq := ⟨tab (pw sq.length) fun m => f m % p, tab_len _ _, NumsL.tab fun _ _ => ⟨Int.emod_nonneg _ (by omega), Int.emod_lt_of_pos _ hp⟩, hp⟩
theorem Cl.of_co (hp : 0 < p) (f : Nat → Int) {m : Nat} (hm : m < pw sq.length) : (Cl.of hp f : Cl p sq).co m = f m % p := tab_getD hm 0
theorem Cl.of_cg (hp : 0 < p) (f : Nat → Int) {m : Nat} (hm : m < pw sq.length) : (Cl.of hp f : Cl p sq).co m % p = f m % p := by rw [Cl.of_co hp f hm, Int.emod_emod_of_dvd _ (Int.dvd_refl p)]
instance : Mul (Cl p sq) := ⟨fun x y => Cl.of x.pos (mulZ sq x.co y.co)⟩
instance : Add (Cl p sq) := ⟨fun x y => Cl.of x.pos fun m => x.co m + y.co m⟩
instance : Neg (Cl p sq) := ⟨fun x => Cl.of x.pos fun m => -(x.co m)⟩
instance : HMul Int (Cl p sq) (Cl p sq) := ⟨fun k x => Cl.of x.pos fun m => k * x.co m⟩
theorem Cl.mul_co (x y : Cl p sq) {m : Nat} (hm : m < pw sq.length) : (x * y).co m % p = mulZ sq x.co y.co m % p := Cl.of_cg _ _ hm
theorem Cl.add_co (x y : Cl p sq) {m : Nat} (hm : m < pw sq.length) : (x + y).co m % p = (x.co m + y.co m) % p := Cl.of_cg _ _ hm
theorem Cl.neg_co (x : Cl p sq) {m : Nat} (hm : m < pw sq.length) : (-x).co m % p = (-(x.co m)) % p := Cl.of_cg _ _ hm
theorem Cl.sm_co (k : Int) (x : Cl p sq) {m : Nat} (hm : m < pw sq.length) : (k * x).co m % p = (k * x.co m) % p := Cl.of_cg _ _ hm
theorem Cl.mul_assoc (x y z : Cl p sq) : x * y * z = x * (y * z) := Cl.same fun m hm => by
  rw [Cl.mul_co _ _ hm, Cl.mul_co _ _ hm, mulZ_cg p sq (fun a ha => Cl.mul_co x y ha) (fun _ _ => rfl) hm, mulZ_assoc sq _ _ _ hm]
  exact mulZ_cg p sq (fun _ _ => rfl) (fun a ha => (Cl.mul_co y z ha).symm) hm
theorem Cl.add_mul (x y z : Cl p sq) : (x + y) * z = x * z + y * z := Cl.same fun m hm => by
  rw [Cl.mul_co _ _ hm, mulZ_cg p sq (fun a ha => Cl.add_co x y ha) (fun _ _ => rfl) hm, Cl.add_co _ _ hm, Int.add_emod, Cl.mul_co _ _ hm, Cl.mul_co _ _ hm, ← Int.add_emod]
  unfold mulZ
  rw [← sumTo_add]
  congr 1
  exact sumTo_congr fun a _ => by rw [Int.add_mul, Int.add_mul]
theorem Cl.mul_add (x y z : Cl p sq) : x * (y + z) = x * y + x * z := Cl.same fun m hm => by
  rw [Cl.mul_co _ _ hm, mulZ_cg p sq (fun _ _ => rfl) (fun a ha => Cl.add_co y z ha) hm, Cl.add_co _ _ hm, Int.add_emod, Cl.mul_co _ _ hm, Cl.mul_co _ _ hm, ← Int.add_emod]
  unfold mulZ
  rw [← sumTo_add]
  congr 1
  exact sumTo_congr fun a _ => by rw [Int.mul_add, Int.add_mul]
theorem Cl.sm_mul (k : Int) (x y : Cl p sq) : (k * x) * y = k * (x * y) := Cl.same fun m hm => by
  rw [Cl.mul_co _ _ hm, mulZ_cg p sq (fun a ha => Cl.sm_co k x ha) (fun _ _ => rfl) hm, Cl.sm_co _ _ hm, Int.mul_emod k, Cl.mul_co _ _ hm, ← Int.mul_emod]
  unfold mulZ
  rw [← sumTo_mul]
  congr 1
  exact sumTo_congr fun a _ => by rw [Int.mul_assoc, Int.mul_assoc, Int.mul_assoc]
theorem Cl.mul_sm (k : Int) (x y : Cl p sq) : x * (k * y) = k * (x * y) := Cl.same fun m hm => by
  rw [Cl.mul_co _ _ hm, mulZ_cg p sq (fun _ _ => rfl) (fun a ha => Cl.sm_co k y ha) hm, Cl.sm_co _ _ hm, Int.mul_emod k, Cl.mul_co _ _ hm, ← Int.mul_emod]
  unfold mulZ
  rw [← sumTo_mul]
  congr 1
  exact sumTo_congr fun a _ => by rw [Int.mul_left_comm, Int.mul_assoc, Int.mul_assoc]
theorem Cl.add_comm (x y : Cl p sq) : x + y = y + x := Cl.same fun m hm => by rw [Cl.add_co _ _ hm, Cl.add_co _ _ hm, Int.add_comm]
theorem Cl.add_assoc (x y z : Cl p sq) : x + y + z = x + (y + z) := Cl.same fun m hm => by
  rw [Cl.add_co _ _ hm, Cl.add_co _ _ hm, Int.add_emod, Cl.add_co _ _ hm, ← Int.add_emod, Int.add_emod (x.co m), Cl.add_co _ _ hm, ← Int.add_emod, Int.add_assoc]
theorem Cl.sm_sm (k j : Int) (x : Cl p sq) : k * (j * x) = (k * j) * x := Cl.same fun m hm => by
  rw [Cl.sm_co _ _ hm, Int.mul_emod, Cl.sm_co _ _ hm, ← Int.mul_emod, Cl.sm_co _ _ hm, Int.mul_assoc]
theorem Cl.add_sm (k j : Int) (x : Cl p sq) : (k + j) * x = k * x + j * x := Cl.same fun m hm => by
  rw [Cl.sm_co _ _ hm, Cl.add_co _ _ hm, Int.add_emod, Cl.sm_co _ _ hm, Cl.sm_co _ _ hm, ← Int.add_emod, Int.add_mul]
theorem Cl.sm_cg {k j : Int} (h : k % p = j % p) (x : Cl p sq) : k * x = j * x := Cl.same fun m hm => by
  rw [Cl.sm_co _ _ hm, Cl.sm_co _ _ hm, Int.mul_emod, h, ← Int.mul_emod]
theorem Cl.neg_sm (x : Cl p sq) : -x = (-1 : Int) * x := Cl.same fun m hm => by rw [Cl.neg_co _ hm, Cl.sm_co _ _ hm, Int.neg_mul, Int.one_mul]
theorem Cl.one_sm (x : Cl p sq) : (1 : Int) * x = x := Cl.same fun m hm => by rw [Cl.sm_co _ _ hm, Int.one_mul]
/-- The numbers of a list, and no more than there are places. -/
def Cl.zero (hp : 0 < p) : Cl p sq := Cl.of hp fun _ => 0
theorem Cl.zero_sm (x : Cl p sq) : (0 : Int) * x = Cl.zero x.pos := Cl.same fun m hm => by
  rw [Cl.sm_co _ _ hm]; unfold Cl.zero; rw [Cl.of_cg _ _ hm, Int.zero_mul]
theorem Cl.add_zero (x : Cl p sq) (hp : 0 < p) : x + Cl.zero hp = x := Cl.same fun m hm => by
  rw [Cl.add_co _ _ hm, Int.add_emod]; unfold Cl.zero; rw [Cl.of_cg _ _ hm, ← Int.add_emod, Int.add_zero]
/-- The multivector 1. -/
def Cl.one (hp : 0 < p) : Cl p sq := Cl.of hp fun m => if m = 0 then 1 else 0
theorem Cl.one_co (hp : 0 < p) {m : Nat} (hm : m < pw sq.length) : (Cl.one hp : Cl p sq).co m % p = (if m = 0 then 1 else 0) % p := Cl.of_cg _ _ hm
theorem swaps_zero_right (a : Nat) : ∀ n, swaps a 0 n = 0 := by
  intro n
  induction n with
  | zero => rfl
  | succ n ih => simp [swaps, ih, bit_zero]
theorem swaps_zero_left (b : Nat) : ∀ n, swaps 0 b n = 0 := by
  intro n
  induction n with
  | zero => rfl
  | succ n ih => simp [swaps, ih, pc_zero]
theorem comZ_zero_left (sq : List Int) (b : Nat) : ∀ n, comZ sq 0 b n = 1 := by
  intro n
  induction n with
  | zero => rfl
  | succ n ih => simp [comZ, ih, bit_zero]
theorem facZ_zero_left (sq : List Int) (b : Nat) : facZ sq 0 b = 1 := by unfold facZ; rw [swaps_zero_left, comZ_zero_left]; rfl
theorem facZ_zero_right (sq : List Int) (a : Nat) : facZ sq a 0 = 1 := by unfold facZ; rw [swaps_zero_right, comZ_symm, comZ_zero_left]; rfl
theorem mulZ_one_left (sq : List Int) (x : Nat → Int) (m : Nat) : mulZ sq (fun m => if m = 0 then 1 else 0) x m = x m := by
  unfold mulZ
  rw [sumTo_one 0 (pw_pos _) fun i _ h => by dsimp only; rw [if_neg h, Int.zero_mul, Int.zero_mul]]
  dsimp only
  rw [if_pos rfl, Nat.zero_xor, facZ_zero_left, Int.one_mul, Int.mul_one]
theorem mulZ_one_right (sq : List Int) (x : Nat → Int) {m : Nat} (hm : m < pw sq.length) : mulZ sq x (fun m => if m = 0 then 1 else 0) m = x m := by
  unfold mulZ
  rw [sumTo_one m hm fun i _ h => by dsimp only; rw [if_neg (fun e => h (by have := (xor_eq_iff i m 0).1 e; rw [this, Nat.xor_zero])), Int.mul_zero, Int.zero_mul]]
  dsimp only
  rw [Nat.xor_self, if_pos rfl, facZ_zero_right, Int.mul_one, Int.mul_one]
theorem Cl.one_mul (hp : 0 < p) (x : Cl p sq) : Cl.one hp * x = x := Cl.same fun m hm => by
  rw [Cl.mul_co _ _ hm, mulZ_cg p sq (fun a ha => Cl.one_co hp ha) (fun _ _ => rfl) hm, mulZ_one_left]
theorem Cl.mul_one (hp : 0 < p) (x : Cl p sq) : x * Cl.one hp = x := Cl.same fun m hm => by
  rw [Cl.mul_co _ _ hm, mulZ_cg p sq (fun _ _ => rfl) (fun a ha => Cl.one_co hp ha) hm, mulZ_one_right sq _ hm]
theorem mulL_co {n : Nat} (hn : sq.length = n) {xs ys : List Int} (hx : xs.length = pw n) (hy : ys.length = pw n) {m : Nat} (hm : m < pw n) : (mulL p sq xs ys).getD m 0 % p = mulZ sq (fun a => xs.getD a 0) (fun a => ys.getD a 0) m % p := by
  subst hn
  unfold mulL
  rw [prodL_getD p sq _ xs ys _ m hx hy hm, Int.emod_emod_of_dvd _ (Int.dvd_refl p)]
  unfold mulZ
  refine sumTo_mod p fun a _ => ?_
  unfold term
  rw [if_pos rfl, Int.mul_emod, fac_facZ, ← Int.mul_emod]
theorem Cl.mul_l (x y : Cl p sq) : (x * y).l = mulL p sq x.l y.l := by
  refine list_ext_getD 0 (by rw [(x * y).len, mulL_len, x.len]) fun m hm => ?_
  rw [(x * y).len] at hm
  have h1 := (x * y).co_mod m
  have h2 := Cl.mul_co x y hm
  have h3 := mulL_co (p := p) rfl x.len y.len hm
  have h4 := (mulL_nums x.pos sq x.l y.l).getD x.pos m
  rw [Int.emod_eq_of_lt h4.1 h4.2] at h3
  rw [h3]
  rw [h1] at h2
  exact h2
theorem Cl.one_l (hp : 2 ≤ p) : (Cl.one (by omega) : Cl p sq).l = bladeL sq.length 0 := by
  refine list_ext_getD 0 (by rw [Cl.len, bladeL_len]) fun m hm => ?_
  rw [Cl.len] at hm
  rw [bladeL_getD _ _ _ hm]
  show (Cl.one _ : Cl p sq).co m = _
  unfold Cl.one
  rw [Cl.of_co _ _ hm]
  by_cases h : m = 0
  · rw [if_pos h, if_pos h.symm, Int.emod_eq_of_lt (by omega) (by omega)]
  · rw [if_neg h, if_neg (fun e => h e.symm), Int.zero_emod]
theorem Cl.sm_l (x : Cl p sq) (k : Int) : (k * x).l = scaleL p x.l k := by
  refine list_ext_getD 0 (by rw [Cl.len, scaleL_len, x.len]) fun m hm => ?_
  rw [Cl.len] at hm
  rw [scaleL_getD _ (by rw [x.len]; exact hm)]
  have h1 := (k * x).co_mod m
  rw [Cl.sm_co _ _ hm, Int.mul_comm] at h1
  exact h1.symm
end
end Go.Proofs.YtggigolkncckoaaGreat
namespace Go.Proofs.YtggigolkncckoaaGreat
theorem bit_high {b n i : Nat} (hb : b < 2 ^ n) (h : n ≤ i) : bit b i = 0 := by
  unfold bit
  rw [Nat.div_eq_of_lt (Nat.lt_of_lt_of_le hb (Nat.pow_le_pow_right (by decide) h))]
section
variable {p : Int} {sq : List Int}
def Cl.vec (hp : 0 < p) (v : List Int) : Cl p sq := Cl.of hp fun b => sumTo sq.length fun i => if b = 2 ^ i then v.getD i 0 else 0
theorem Cl.vec_co (hp : 0 < p) (v : List Int) {m : Nat} (hm : m < pw sq.length) : (Cl.vec hp v : Cl p sq).co m % p = (sumTo sq.length fun i => if m = 2 ^ i then v.getD i 0 else 0) % p := Cl.of_cg _ _ hm
theorem Cl.vec_l (hp : 0 < p) {v : List Int} (hv : NumsL p v) : (Cl.vec hp v : Cl p sq).l = vecTo sq.length v sq.length := by
  refine list_ext_getD 0 (by rw [Cl.len, vecTo_len]) fun m hm => ?_
  rw [Cl.len] at hm
  rw [vecTo_getD _ hm _ (Nat.le_refl _)]
  show (Cl.vec _ _ : Cl p sq).co m = _
  rw [← Cl.co_mod, Cl.vec_co hp v hm, ← vecTo_getD v hm _ (Nat.le_refl _)]
  have := (vecTo_nums hp sq.length v hv sq.length).getD hp m
  exact Int.emod_eq_of_lt this.1 this.2
theorem pow_inj {i j : Nat} (h : (2 : Nat) ^ i = 2 ^ j) : i = j := (Nat.pow_right_inj (by decide)).1 h
theorem bit_pow (i j : Nat) : bit (2 ^ i) j = if i = j then 1 else 0 := by
  rw [bit_eq, Nat.testBit_two_pow]
  by_cases h : i = j <;> simp [h]
theorem pc_pow (i : Nat) : pc (2 ^ i) = 1 := by
  rw [pc_pcn (i + 1) _ (Nat.pow_lt_pow_right (by decide) (by omega)), pcn, bit_pow, if_pos rfl]
  have : ∀ k, k ≤ i → pcn (2 ^ i) k = 0 := by
    intro k
    induction k with
    | zero => intro _; rfl
    | succ k ih => intro hk; rw [pcn, ih (by omega), bit_pow, if_neg (by omega)]
  rw [this i (Nat.le_refl _)]
theorem swaps_pow (a j : Nat) : ∀ k, swaps a (2 ^ j) k = if j < k then pc (a / 2 ^ (j + 1)) else 0 := by
  intro k
  induction k with
  | zero => rfl
  | succ k ih =>
    simp only [swaps]
    rw [ih, bit_pow]
    by_cases h1 : j = k
    · subst h1; simp
    · by_cases h2 : j < k
      · simp [h1, h2, show j < k + 1 by omega]
      · simp [h1, h2, show ¬ j < k + 1 by omega]
theorem comZ_pow (sq : List Int) (i j : Nat) : ∀ k, comZ sq (2 ^ i) (2 ^ j) k = if i = j ∧ i < k then sq.getD i 0 else 1 := by
  intro k
  induction k with
  | zero => simp [comZ]
  | succ k ih =>
    simp only [comZ]
    rw [ih, bit_pow, bit_pow]
    by_cases h : i = j
    · subst h
      by_cases h1 : i = k
      · subst h1; simp
      · by_cases h2 : i < k
        · simp [h1, h2, show i < k + 1 by omega]
        · simp [h1, h2, show ¬ i < k + 1 by omega]
    · simp only [h, false_and, if_false]
      rw [if_neg, Int.mul_one]
      rintro ⟨h1, h2⟩
      split at h1
      · split at h2
        · omega
        · cases h2
      · cases h1
theorem facZ_same (sq : List Int) {i : Nat} (hi : i < sq.length) : facZ sq (2 ^ i) (2 ^ i) = sq.getD i 0 := by
  unfold facZ
  rw [swaps_pow, if_pos hi, comZ_pow, if_pos ⟨rfl, hi⟩, Nat.div_eq_of_lt (Nat.pow_lt_pow_right (by decide) (by omega)), pc_zero]
  show 1 * _ = _
  rw [Int.one_mul]
theorem facZ_less (sq : List Int) {i j : Nat} (h : i < j) (hj : j < sq.length) : facZ sq (2 ^ i) (2 ^ j) = 1 ∧ facZ sq (2 ^ j) (2 ^ i) = -1 := by
  unfold facZ
  rw [swaps_pow, if_pos hj, comZ_pow, if_neg (by omega), swaps_pow, if_pos (by omega), comZ_pow, if_neg (by omega), Nat.div_eq_of_lt (Nat.pow_lt_pow_right (by decide) (by omega)), pc_zero]
  refine ⟨rfl, ?_⟩
  rw [Nat.pow_div (by omega) (by decide), pc_pow]
  rfl
theorem facZ_both (sq : List Int) {i j : Nat} (hi : i < sq.length) (hj : j < sq.length) : facZ sq (2 ^ i) (2 ^ j) + facZ sq (2 ^ j) (2 ^ i) = if i = j then 2 * sq.getD i 0 else 0 := by
  rcases Nat.lt_trichotomy i j with h | h | h
  · rw [(facZ_less sq h hj).1, (facZ_less sq h hj).2, if_neg (by omega)]; rfl
  · subst h; rw [facZ_same sq hi, if_pos rfl]; omega
  · rw [(facZ_less sq h hi).1, (facZ_less sq h hi).2, if_neg (by omega)]; rfl
/-- The product of two vectors, over the integers. -/
def bil (sq v u : List Int) : Int := sumTo sq.length fun i => v.getD i 0 * u.getD i 0 * sq.getD i 0
/-- The product of vectors, at a place. -/
theorem mulZ_vec (sq u v : List Int) {m : Nat} (hm : m < pw sq.length) :
    mulZ sq (fun b => sumTo sq.length fun i => if b = 2 ^ i then u.getD i 0 else 0) (fun b => sumTo sq.length fun i => if b = 2 ^ i then v.getD i 0 else 0) m
      = sumTo sq.length fun i => sumTo sq.length fun j => if 2 ^ i ^^^ 2 ^ j = m then u.getD i 0 * v.getD j 0 * facZ sq (2 ^ i) (2 ^ j) else 0 := by
  unfold mulZ
  rw [sumTo_congr (g := fun a => sumTo sq.length fun i => if a = 2 ^ i then sumTo sq.length fun j => if 2 ^ i ^^^ 2 ^ j = m then u.getD i 0 * v.getD j 0 * facZ sq (2 ^ i) (2 ^ j) else 0 else 0) fun a ha => ?_, sumTo_comm]
  · refine sumTo_congr fun i hi => ?_
    rw [sumTo_one (2 ^ i) (two_lt hi) fun a _ hne => if_neg hne, if_pos rfl]
  · rw [← sumTo_mul_right, ← sumTo_mul_right]
    refine sumTo_congr fun i _ => ?_
    by_cases h : a = 2 ^ i
    · rw [if_pos h, if_pos h, ← sumTo_mul, ← sumTo_mul_right]
      refine sumTo_congr fun j _ => ?_
      by_cases h2 : 2 ^ i ^^^ 2 ^ j = m
      · rw [if_pos h2, h, if_pos ((xor_eq_iff _ _ _).1 h2).symm, ← (xor_eq_iff _ _ _).1 h2]
      · rw [if_neg h2, h, if_neg (fun e => h2 ((xor_eq_iff _ _ _).2 e.symm)), Int.mul_zero, Int.zero_mul]
    · rw [if_neg h, if_neg h, Int.zero_mul, Int.zero_mul]
/-- Vectors: the sum of both products is twice the number of the product. -/
theorem Cl.vec_anti (hp : 0 < p) (u v : List Int) : (Cl.vec hp u : Cl p sq) * Cl.vec hp v + Cl.vec hp v * Cl.vec hp u = (2 * bil sq u v) * Cl.one hp := Cl.same fun m hm => by
  rw [Cl.add_co _ _ hm, Int.add_emod, Cl.mul_co _ _ hm, Cl.mul_co _ _ hm, mulZ_cg p sq (fun a ha => Cl.vec_co hp u ha) (fun a ha => Cl.vec_co hp v ha) hm,
    mulZ_cg p sq (fun a ha => Cl.vec_co hp v ha) (fun a ha => Cl.vec_co hp u ha) hm, ← Int.add_emod, mulZ_vec sq u v hm, mulZ_vec sq v u hm, Cl.sm_co _ _ hm, Int.mul_emod (2 * _), Cl.one_co hp hm, ← Int.mul_emod]
  congr 1
  rw [sumTo_comm sq.length sq.length (fun i j => if 2 ^ i ^^^ 2 ^ j = m then v.getD i 0 * u.getD j 0 * facZ sq (2 ^ i) (2 ^ j) else 0), ← sumTo_add]
  unfold bil
  rw [← sumTo_mul, ← sumTo_mul_right]
  refine sumTo_congr fun i hi => ?_
  rw [← sumTo_add]
  have key : ∀ j, j < sq.length → ((if 2 ^ i ^^^ 2 ^ j = m then u.getD i 0 * v.getD j 0 * facZ sq (2 ^ i) (2 ^ j) else 0) + if 2 ^ j ^^^ 2 ^ i = m then v.getD j 0 * u.getD i 0 * facZ sq (2 ^ j) (2 ^ i) else 0) = if 2 ^ i ^^^ 2 ^ j = m then u.getD i 0 * v.getD j 0 * (if i = j then 2 * sq.getD i 0 else 0) else 0 := fun j hj => by
    rw [Nat.xor_comm (2 ^ j)]
    by_cases h : 2 ^ i ^^^ 2 ^ j = m
    · rw [if_pos h, if_pos h, if_pos h, Int.mul_comm (v.getD j 0), ← Int.mul_add, facZ_both sq hi hj]
    · rw [if_neg h, if_neg h, if_neg h]; rfl
  rw [sumTo_congr key, sumTo_one i hi fun j _ hne => by
    split
    · rw [if_neg (fun e => hne e.symm), Int.mul_zero]
    · rfl]
  rw [if_pos rfl, Nat.xor_self]
  by_cases h : m = 0
  · rw [if_pos h, if_pos h.symm, Int.mul_one, Int.mul_left_comm]
  · rw [if_neg h, if_neg (fun e => h e.symm), Int.mul_zero]
end
end Go.Proofs.YtggigolkncckoaaGreat
namespace Go.Proofs.YtggigolkncckoaaGreat
theorem half_ok {p : Int} (hP : isP p = true) : (p + 1) / 2 * 2 % p = 1 % p := by
  simp only [isP, Bool.or_eq_true, beq_iff_eq] at hP
  rcases hP with (((rfl | rfl) | rfl) | rfl) | rfl <;> decide
theorem inv_mod {p a : Int} (hP : isP p = true) (h : a % p ≠ 0) : a * invF p (a % p) % p = 1 := by
  have h3 := (isP_ge hP).1
  have h1 := Int.emod_nonneg a (show p ≠ 0 by omega)
  have h2 := Int.emod_lt_of_pos a (show 0 < p by omega)
  have hs := inv_spec hP (show 0 < a % p by omega) h2
  have := (hs.2.2 (invF p (a % p)) (by omega) hs.2.1).2 rfl
  rw [Int.mul_emod, Int.emod_emod_of_dvd _ (Int.dvd_refl p)] at this
  rw [Int.mul_emod]
  exact this
section
variable {p : Int} {sq : List Int}
theorem Cl.two (x : Cl p sq) : x + x = (2 : Int) * x := by
  have := Cl.add_sm 1 1 x
  rw [Cl.one_sm] at this
  exact this.symm
theorem Cl.half {x y : Cl p sq} (hP : isP p = true) (h : (2 : Int) * x = (2 : Int) * y) : x = y := by
  have e : ∀ z : Cl p sq, ((p + 1) / 2 : Int) * ((2 : Int) * z) = z := fun z => by rw [Cl.sm_sm, Cl.sm_cg (half_ok hP), Cl.one_sm]
  rw [← e x, h, e y]
theorem Cl.add_back (x y : Cl p sq) (k : Int) : x + k * y + (-k) * y = x := by
  rw [Cl.add_assoc, ← Cl.add_sm, show k + -k = 0 by omega, Cl.zero_sm, Cl.add_zero]
theorem Cl.neg_mul (x y : Cl p sq) : (-x) * y = (-1 : Int) * (x * y) := by rw [Cl.neg_sm, Cl.sm_mul]
theorem Cl.vec_plus (hp : 0 < p) {a b : List Int} (ha : a.length = sq.length) (k : Int) : (Cl.vec hp (plusL p a b k) : Cl p sq) = Cl.vec hp a + k * Cl.vec hp b := Cl.same fun m hm => by
  rw [Cl.vec_co hp _ hm, Cl.add_co _ _ hm, Int.add_emod, Cl.vec_co hp _ hm, Cl.sm_co _ _ hm, Int.mul_emod, Cl.vec_co hp _ hm, ← Int.mul_emod, ← Int.add_emod, ← sumTo_mul, ← sumTo_add]
  refine sumTo_mod p fun i hi => ?_
  by_cases h : m = 2 ^ i
  · rw [if_pos h, if_pos h, if_pos h, plusL_getD _ _ (by omega), Int.emod_emod_of_dvd _ (Int.dvd_refl p)]
  · rw [if_neg h, if_neg h, if_neg h, Int.mul_zero]; rfl
theorem Cl.vec_scale (hp : 0 < p) {a : List Int} (ha : a.length = sq.length) (k : Int) : (Cl.vec hp (scaleL p a k) : Cl p sq) = k * Cl.vec hp a := Cl.same fun m hm => by
  rw [Cl.vec_co hp _ hm, Cl.sm_co _ _ hm, Int.mul_emod, Cl.vec_co hp _ hm, ← Int.mul_emod, ← sumTo_mul]
  refine sumTo_mod p fun i hi => ?_
  by_cases h : m = 2 ^ i
  · rw [if_pos h, if_pos h, scaleL_getD _ (by omega), Int.emod_emod_of_dvd _ (Int.dvd_refl p), Int.mul_comm]
  · rw [if_neg h, if_neg h, Int.mul_zero]
theorem Cl.vec_sq (hp : 0 < p) (hP : isP p = true) (v : List Int) : (Cl.vec hp v : Cl p sq) * Cl.vec hp v = bil sq v v * Cl.one hp := by
  refine Cl.half hP ?_
  rw [← Cl.two, Cl.vec_anti, Cl.sm_sm]
/-- Products of vectors. -/
def Cl.prod (hp : 0 < p) (vs : List (List Int)) : Cl p sq := vs.foldl (fun x v => x * Cl.vec hp v) (Cl.one hp)
theorem Cl.prod_from (hp : 0 < p) (vs : List (List Int)) : ∀ y : Cl p sq, vs.foldl (fun x v => x * Cl.vec hp v) y = y * Cl.prod hp vs := by
  induction vs with
  | nil => intro y; exact (Cl.mul_one hp y).symm
  | cons v vs ih =>
    intro y
    unfold Cl.prod
    rw [List.foldl_cons, ih, List.foldl_cons, ih, Cl.one_mul, Cl.mul_assoc]
theorem Cl.prod_cons (hp : 0 < p) (v : List Int) (vs : List (List Int)) : (Cl.prod hp (v :: vs) : Cl p sq) = Cl.vec hp v * Cl.prod hp vs := by
  have := Cl.prod_from hp vs (Cl.vec hp v : Cl p sq)
  rw [← this]
  unfold Cl.prod
  rw [List.foldl_cons, Cl.one_mul]
theorem Cl.prod_snoc (hp : 0 < p) (v : List Int) (vs : List (List Int)) : (Cl.prod hp (vs ++ [v]) : Cl p sq) = Cl.prod hp vs * Cl.vec hp v := by
  unfold Cl.prod
  rw [List.foldl_append]; rfl
end
end Go.Proofs.YtggigolkncckoaaGreat
namespace Go.Proofs.YtggigolkncckoaaGreat
section
variable {p : Int} {sq : List Int}
theorem mul_ne {p : Int} (hP : isP p = true) {a b : Int} (ha : a % p ≠ 0) (hb : b % p ≠ 0) : a * b % p ≠ 0 := fun h => by
  have h3 := (isP_ge hP).1
  rw [Int.mul_emod] at h
  rcases mul_zero_mod hP (emod_small a p (by omega)) (emod_small b p (by omega)) h with h | h
  · exact ha h
  · exact hb h
/-- A vector is a sum of multiples of unit vectors. -/
def Cl.sum (hp : 0 < p) : Nat → (Nat → Cl p sq) → Cl p sq
  | 0, _ => Cl.zero hp
  | n + 1, f => Cl.sum hp n f + f n
theorem Cl.zero_co (hp : 0 < p) {m : Nat} (hm : m < pw sq.length) : (Cl.zero hp : Cl p sq).co m % p = 0 := by
  unfold Cl.zero; rw [Cl.of_cg _ _ hm, Int.zero_emod]
theorem Cl.sum_co (hp : 0 < p) (f : Nat → Cl p sq) {m : Nat} (hm : m < pw sq.length) : ∀ n, (Cl.sum hp n f).co m % p = (sumTo n fun i => (f i).co m) % p := by
  intro n
  induction n with
  | zero => rw [show Cl.sum hp 0 f = Cl.zero hp from rfl, Cl.zero_co hp hm]; rfl
  | succ n ih =>
    rw [show Cl.sum hp (n + 1) f = Cl.sum hp n f + f n from rfl, Cl.add_co _ _ hm, Int.add_emod, ih, ← Int.add_emod, sumTo_succ]
theorem Cl.zero_mul (hp : 0 < p) (x : Cl p sq) : Cl.zero hp * x = Cl.zero hp := by
  have := Cl.zero_sm (x := (Cl.one hp : Cl p sq))
  rw [← this, Cl.sm_mul, Cl.one_mul, Cl.zero_sm, Cl.zero_sm]
theorem Cl.mul_zero (hp : 0 < p) (x : Cl p sq) : x * Cl.zero hp = Cl.zero hp := by
  have := Cl.zero_sm (x := (Cl.one hp : Cl p sq))
  rw [← this, Cl.mul_sm, Cl.mul_one, Cl.zero_sm, Cl.zero_sm]
theorem Cl.vec_sum (hp : 0 < p) (w : List Int) : (Cl.vec hp w : Cl p sq) = Cl.sum hp sq.length fun i => w.getD i 0 * Cl.vec hp (unitRow sq.length i) := Cl.same fun m hm => by
  rw [Cl.vec_co hp w hm, Cl.sum_co hp _ hm]
  refine sumTo_mod p fun i hi => ?_
  rw [Cl.sm_co _ _ hm, Int.mul_emod, Cl.vec_co hp _ hm, ← Int.mul_emod, sumTo_one i hi fun j hj hne => by
    split
    · rw [unitRow_getD hj, if_neg fun e => hne e.symm]
    · rfl]
  rw [unitRow_getD hi, if_pos rfl]
  by_cases h : m = 2 ^ i
  · rw [if_pos h, if_pos h, Int.mul_one]
  · rw [if_neg h, if_neg h, Int.mul_zero]
end
end Go.Proofs.YtggigolkncckoaaGreat
namespace Go.Proofs.YtggigolkncckoaaGreat
open Go.RowKit
/-- The code of a list of at most 16 vectors. -/
def codeLs (P : Int) (sq : List Int) (vs : List (List Int)) : Int := if codeV P sq vs = 0 then (if 16 < vs.length then 2 else 0) else codeV P sq vs
theorem codeV_sp {P : Int} {sq : List Int} {vs : List (List Int)} (h : codeV P sq vs = 0) : isSp P sq = true ∧ ∀ v ∈ vs, isVe P sq v = true := by
  unfold codeV at h
  by_cases h1 : isSp P sq = true
  · rw [if_pos h1] at h
    refine ⟨h1, fun v hv => ?_⟩
    cases h2 : isVe P sq v
    · rw [if_pos (List.any_eq_true.2 ⟨v, hv, by rw [h2]; rfl⟩)] at h
      exact absurd h (by decide)
    · rfl
  · rw [if_neg h1] at h; exact absurd h (by decide)
theorem isVe_spec5 {P : Int} {sq ys : List Int} (h : isVe P sq ys = true) : ys.length = sq.length ∧ NumsL P ys := by
  unfold isVe at h
  simp only [Bool.and_eq_true, beq_iff_eq] at h
  exact ⟨by have := h.1; omega, nums_numsL h.2⟩
theorem isVe_mk {P : Int} {sq ys : List Int} (h1 : ys.length = sq.length) (h2 : NumsL P ys) : isVe P sq ys = true := by
  unfold isVe nums
  rw [h1, Bool.and_eq_true]
  refine ⟨by simp, List.all_eq_true.2 fun x hx => ?_⟩
  have := h2 x hx
  simp [inR]
  omega
theorem codeV_spec {P : Int} {sq : List Int} {vs : List (List Int)} (h : codeV P sq vs = 0) : isP P = true ∧ 2 ≤ P ∧ P ≤ 13 ∧ 1 ≤ sq.length ∧ sq.length ≤ 6 ∧ NumsL P sq ∧ ∀ v ∈ vs, v.length = sq.length ∧ NumsL P v := by
  obtain ⟨h1, h2⟩ := codeV_sp h
  obtain ⟨hp, hd1, hd2, hnum⟩ := isSp_dim h1
  have := isP_ge hp
  exact ⟨hp, by omega, by omega, hd1, hd2, nums_numsL hnum, fun v hv => isVe_spec5 (h2 v hv)⟩
set_option maxHeartbeats 1600000 in
set_option maxRecDepth 8000 in
theorem l03List_any (P : Int) (A : Option Addr) (n c : Nat) (sq : List Int) (B : Option Addr) (m d : Nat) (L : List (List Int)) (w : World) (hp0 : 0 < P) (hp1 : P ≤ 13) (hn : n ≤ 1048576) (hm : m ≤ 1048576) (ha : Rd w A n (ints sq)) (hb : RdII w B m L) (hL : ∀ ys ∈ L, ys.length ≤ 1048576) :
    Calls Tryz.prog 303 #[.agg #[.int .i64 P, .slice A n c], .slice B m d] w fun e w' => e = .returned (.bool (L.all (isVe P sq) && decide (m ≤ 16))) ∧ Below w.heap.size w w' := by
  have hsl := ha.lenI
  have HSL := Lib.hid hsl
  have HML := Lib.hid hb.len
  have hB0 : Below w.heap.size w (w.alloc (.cells #[.int .i64 P, .slice A n c] 26)) := (Below.refl _ _).alloc (Nat.le_refl _) _
  have k0 : Blk (w.alloc (.cells #[.int .i64 P, .slice A n c] 26)) w.heap.size 26 #[.int .i64 P, .slice A n c] := Blk.new _ _ _
  clear hsl
  go_enter Tryz.func303, Tryz.ntmps303
  go_wp2
  go_loopw [5] (fun i wr => ∃ k : Nat, k ≤ m ∧ i = .int .i64 k ∧ (∀ v ∈ L.take k, isVe P sq v = true) ∧ Blk wr w.heap.size 26 #[.int .i64 P, .slice A n c] ∧ Below w.heap.size w wr) (fun i _ => m - (intOf i).toNat)
  case atStart => exact ⟨0, by omega, rfl, by simp, k0, hB0⟩
  case round =>
    obtain ⟨k, hk, rfl, hall, k2, hB2⟩ := hrel
    have HALL := Lib.hid hall
    clear hall k0 hB0
    by_cases hlt : k < m
    · obtain ⟨g, o, rfl, hxk, A1, c1', hcx, hr, hcc⟩ := (hb.below hB2).at_ hlt
      have hlk := hL _ (List.getElem_mem hxk)
      have HMEM := Lib.hid (List.getElem_mem hxk)
      have HT := Lib.hid (List.take_succ_eq_append_getElem hxk)
      have HVE := Lib.hid fun (w' : World) (h : Below wr.heap.size wr w') => l03Vector_any P A A1 n c L[k].length c1' sq L[k] w' hn HSL.out hlk hp0 hp1 (hr.below h)
      have b1 : (0 : Int) ≤ (k : Int) := by omega
      have b2 : (k : Int) < (m : Int) := by omega
      obtain ⟨bv, hbv⟩ : ∃ b, b = isVe P sq L[k] := ⟨_, rfl⟩
      have HBV := Lib.hid hbv
      rw [← hbv] at HVE
      obtain ⟨q0, q1⟩ := k2.two
      clear hbv hr hcc
      go_wp2
      refine wp_obs 7 [[], [], [], [1, 2], [1, 2, 3], [0, 1, 2, 3, 4], [0, 1, 2, 3, 4, 5]] [VIs (.agg #[.int .i64 P, .slice A n c]), VIs (.slice (some ⟨g, o, none⟩) m d), VIs (.int .i64 (k)), VIs (.pointer (some ⟨g, o + k, none⟩)), VIs (.slice A1 L[k].length c1'), VIs (.bool bv), VIs (.bool (!bv))] (fun w' => w'.cell? ⟨g, o + k, none⟩ = some (.slice A1 L[k].length c1') ∧ Blk w' w.heap.size 26 #[.int .i64 P, .slice A n c] ∧ Below wr.heap.size wr w') (by kernel_rfl) (by kernel_rfl) (fun _ _ h hb => ⟨(hb.cell (World.block_lt_of_cell? _ _ h.1)).trans h.1, h.2.1.below hb h.2.1.lt, h.2.2.trans (hb.mono h.2.2.size)⟩) (⟨hcx, k2.drew, (Below.refl _ _).drew⟩) (fun x => ?_)
      refine obs_step (Eq.trans (by simp only [List.getElem?_toArray, List.getElem?_cons_zero]; exact rfl) rfl) rfl (fun w' hS hV K hK => ?_) ?_
      · have q2 := hS.1; obtain ⟨q0, q1⟩ := hS.2.1.two
        go_simp
        exact hK.out _ _ _ rfl rfl rfl (Below.refl _ _)
      simp only [List.setIfInBounds_toArray, List.set_cons_zero, List.set_cons_succ]
      refine obs_step (Eq.trans (by simp only [List.getElem?_toArray, List.getElem?_cons_succ, List.getElem?_cons_zero]; exact rfl) rfl) rfl (fun w' hS hV K hK => ?_) ?_
      · have q2 := hS.1; obtain ⟨q0, q1⟩ := hS.2.1.two
        go_simp
        exact hK.out _ _ _ rfl rfl rfl (Below.refl _ _)
      simp only [List.setIfInBounds_toArray, List.set_cons_zero, List.set_cons_succ]
      refine obs_step (Eq.trans (by simp only [List.getElem?_toArray, List.getElem?_cons_succ, List.getElem?_cons_zero]; exact rfl) rfl) rfl (fun w' hS hV K hK => ?_) ?_
      · have q2 := hS.1; obtain ⟨q0, q1⟩ := hS.2.1.two
        go_simp
        exact hK.out _ _ _ rfl rfl rfl (Below.refl _ _)
      simp only [List.setIfInBounds_toArray, List.set_cons_zero, List.set_cons_succ]
      refine obs_step (Eq.trans (by simp only [List.getElem?_toArray, List.getElem?_cons_succ, List.getElem?_cons_zero]; exact rfl) rfl) rfl (fun w' hS hV K hK => ?_) ?_
      · have e1 : x 1 = (.slice (some ⟨g, o, none⟩) m d) := hV 1 (by decide)
        have e2 : x 2 = (.int .i64 (k)) := hV 2 (by decide)
        have q2 := hS.1; obtain ⟨q0, q1⟩ := hS.2.1.two
        go_simp
        exact hK.out _ _ _ rfl rfl rfl (Below.refl _ _)
      simp only [List.setIfInBounds_toArray, List.set_cons_zero, List.set_cons_succ]
      refine obs_step (Eq.trans (by simp only [List.getElem?_toArray, List.getElem?_cons_succ, List.getElem?_cons_zero]; exact rfl) rfl) rfl (fun w' hS hV K hK => ?_) ?_
      · have e1 : x 1 = (.slice (some ⟨g, o, none⟩) m d) := hV 1 (by decide)
        have e2 : x 2 = (.int .i64 (k)) := hV 2 (by decide)
        have e3 : x 3 = (.pointer (some ⟨g, o + k, none⟩)) := hV 3 (by decide)
        have q2 := hS.1; obtain ⟨q0, q1⟩ := hS.2.1.two
        go_simp
        exact hK.out _ _ _ rfl rfl rfl (Below.refl _ _)
      simp only [List.setIfInBounds_toArray, List.set_cons_zero, List.set_cons_succ]
      refine obs_step (Eq.trans (by simp only [List.getElem?_toArray, List.getElem?_cons_succ, List.getElem?_cons_zero]; exact rfl) rfl) rfl (fun w' hS hV K hK => ?_) ?_
      · have e0 : x 0 = (.agg #[.int .i64 P, .slice A n c]) := hV 0 (by decide)
        have e1 : x 1 = (.slice (some ⟨g, o, none⟩) m d) := hV 1 (by decide)
        have e2 : x 2 = (.int .i64 (k)) := hV 2 (by decide)
        have e3 : x 3 = (.pointer (some ⟨g, o + k, none⟩)) := hV 3 (by decide)
        have e4 : x 4 = (.slice A1 L[k].length c1') := hV 4 (by decide)
        have q2 := hS.1; obtain ⟨q0, q1⟩ := hS.2.1.two
        go_simp
        refine (HVE.out _ hS.2.2).mono ?_
        rintro e v1 ⟨rfl, hb⟩
        exact hK.out _ _ _ rfl rfl rfl hb
      simp only [List.setIfInBounds_toArray, List.set_cons_zero, List.set_cons_succ]
      refine obs_step (Eq.trans (by simp only [List.getElem?_toArray, List.getElem?_cons_succ, List.getElem?_cons_zero]; exact rfl) rfl) rfl (fun w' hS hV K hK => ?_) ?_
      · have e0 : x 0 = (.agg #[.int .i64 P, .slice A n c]) := hV 0 (by decide)
        have e1 : x 1 = (.slice (some ⟨g, o, none⟩) m d) := hV 1 (by decide)
        have e2 : x 2 = (.int .i64 (k)) := hV 2 (by decide)
        have e3 : x 3 = (.pointer (some ⟨g, o + k, none⟩)) := hV 3 (by decide)
        have e4 : x 4 = (.slice A1 L[k].length c1') := hV 4 (by decide)
        have e5 : x 5 = (.bool bv) := hV 5 (by decide)
        have q2 := hS.1; obtain ⟨q0, q1⟩ := hS.2.1.two
        go_simp
        exact hK.out _ _ _ rfl rfl rfl (Below.refl _ _)
      simp only [List.setIfInBounds_toArray, List.set_cons_zero, List.set_cons_succ]
      refine fun w' hS hV => ?_
      have e0 : x 0 = (.agg #[.int .i64 P, .slice A n c]) := hV 0 (by decide)
      have e1 : x 1 = (.slice (some ⟨g, o, none⟩) m d) := hV 1 (by decide)
      have e2 : x 2 = (.int .i64 (k)) := hV 2 (by decide)
      have e3 : x 3 = (.pointer (some ⟨g, o + k, none⟩)) := hV 3 (by decide)
      have e4 : x 4 = (.slice A1 L[k].length c1') := hV 4 (by decide)
      have e5 : x 5 = (.bool bv) := hV 5 (by decide)
      have e6 : x 6 = (.bool (!bv)) := hV 6 (by decide)
      simp only [e0, e1, e2, e3, e4, e5, e6]
      clear e0 e1 e2 e3 e4 e5 e6
      refine wpAny_done (by kernel_rfl) ?_ _
      obtain ⟨_, k3, hB3⟩ := hS
      obtain ⟨w3, rfl⟩ : ∃ W, W = w' := ⟨_, rfl⟩
      have hB4 := hB2.trans (hB3.mono hB2.size)
      clear hB3 hB2 k2 hcx q0 q1 HVE
      cases bv
      · go_wp2
        go_ret
        refine ⟨ret_bool ?_, hB4⟩
        have : L.all (isVe P sq) = false := by
          rw [← Bool.not_eq_true, List.all_eq_true]
          intro h
          have h1 := h _ HMEM.out
          rw [← HBV.out] at h1
          cases h1
        rw [this]; rfl
      · go_wp2
        go_roundw
        case rel => exact ⟨k + 1, by omega, by go_num, fun v hv => by
          rw [HT.out] at hv
          rcases List.mem_append.1 hv with hv | hv
          · exact HALL.out v hv
          · rw [List.mem_singleton.1 hv]; exact HBV.out.symm, k3, hB4⟩
        case measure => simp [intOf]; omega
    · have e1 : L.all (isVe P sq) = true := List.all_eq_true.2 fun v hv => HALL.out v (by rw [List.take_of_length_le (by rw [HML.out]; omega)]; exact hv)
      have HE := Lib.hid e1
      clear e1
      by_cases h16 : m ≤ 16
      · have t1 : decide ((m : Int) ≤ 16) = true := by simp; omega
        go_wp2
        go_ret
        exact ⟨ret_bool (by rw [HE.out]; simp; omega), hB2⟩
      · have t1 : decide ((m : Int) ≤ 16) = false := by simp; omega
        go_wp2
        go_ret
        exact ⟨ret_bool (by rw [HE.out]; simp; omega), hB2⟩
theorem codeLs_sp {P : Int} {sq : List Int} {L : List (List Int)} (h : isSp P sq = true) : codeLs P sq L = if (L.all (isVe P sq) && decide (L.length ≤ 16)) = true then 0 else 2 := by
  unfold codeLs codeV
  rw [if_pos h]
  have e : (L.any fun ys => !(isVe P sq ys)) = !(L.all (isVe P sq)) := by rw [List.all_eq_not_any_not, Bool.not_not]
  rw [e]
  cases L.all (isVe P sq)
  · simp
  · by_cases h16 : L.length ≤ 16
    · simp [h16, Nat.not_lt.2 h16]
    · simp [h16, Nat.lt_of_not_le h16]
theorem codeLs_no {P : Int} {sq : List Int} {L : List (List Int)} (h : isSp P sq = false) : codeLs P sq L = 1 := by
  unfold codeLs codeV
  rw [h]; rfl
set_option maxHeartbeats 1600000 in
theorem l05List_any (P : Int) (A : Option Addr) (n c : Nat) (sq : List Int) (B : Option Addr) (m d : Nat) (L : List (List Int)) (w : World) (hn : n ≤ 1048576) (hm : m ≤ 1048576) (ha : Rd w A n (ints sq)) (hb : RdII w B m L) (hL : ∀ ys ∈ L, ys.length ≤ 1048576) :
    Calls Tryz.prog 170 #[.agg #[.int .i64 P, .slice A n c], .slice B m d] w fun e w' => e = .returned (.int .i64 (codeLs P sq L)) ∧ Below w.heap.size w w' := by
  have hB0 : Below w.heap.size w (w.alloc (.cells #[.int .i64 P, .slice A n c] 26)) := (Below.refl _ _).alloc (Nat.le_refl _) _
  have k0 : Blk (w.alloc (.cells #[.int .i64 P, .slice A n c] 26)) w.heap.size 26 #[.int .i64 P, .slice A n c] := Blk.new _ _ _
  have HLN := Lib.hid hb.len
  cases h1 : isSp P sq
  · have his := l03Is_b P A n c sq (w.alloc (.cells #[.int .i64 P, .slice A n c] 26)) (by omega) (ha.below hB0) h1
    have HC := Lib.hid (codeLs_no (L := L) h1)
    obtain ⟨q0, q1⟩ := k0.two
    clear h1
    go_enter Tryz.func170, Tryz.ntmps170
    go_wp2_with fail
    refine his.mono ?_
    rintro e w2 ⟨rfl, hb2⟩
    go_wp2
    go_ret
    exact ⟨ret_int HC.out.symm, hB0.trans (hb2.mono hB0.size)⟩
  · have his := l03Is_b P A n c sq (w.alloc (.cells #[.int .i64 P, .slice A n c] 26)) (by omega) (ha.below hB0) h1
    have HC := Lib.hid (codeLs_sp (L := L) h1)
    obtain ⟨HP, -, -, -⟩ := isSp_dim h1
    obtain ⟨hp3, hp2⟩ := isP_ge HP
    obtain ⟨q0, q1⟩ := k0.two
    clear h1
    go_enter Tryz.func170, Tryz.ntmps170
    go_wp2_with fail
    refine his.mono ?_
    rintro e w2 ⟨rfl, hb2⟩
    have hB2 := hB0.trans (hb2.mono hB0.size)
    have k2 := k0.below hb2 k0.lt
    have hli := l03List_any P A n c sq B m d L w2 (by omega) hp2 hn hm (ha.below hB2) (hb.below hB2) hL
    obtain ⟨bv, hbv⟩ : ∃ b, b = (L.all (isVe P sq) && decide (m ≤ 16)) := ⟨_, rfl⟩
    rw [← hbv] at hli
    have HBV := Lib.hid hbv
    clear hbv q0 q1 k0 hB0 hb2
    obtain ⟨q0, q1⟩ := k2.two
    cases bv
    all_goals
      go_wp2_with fail
      refine hli.mono ?_
      rintro e w3 ⟨rfl, hb3⟩
      go_wp2
      go_ret
      exact ⟨ret_int (by rw [HC.out, HLN.out, ← HBV.out]; rfl), hB2.trans (hb3.mono hB2.size)⟩
end Go.Proofs.YtggigolkncckoaaGreat
namespace Go.Proofs.YtggigolkncckoaaGreat
open Go.RowKit
set_option maxHeartbeats 1600000 in
theorem checkList_any (P : Int) (A : Option Addr) (n c : Nat) (sq : List Int) (B : Option Addr) (m d : Nat) (L : List (List Int)) (w : World) (hn : n ≤ 1048576) (hm : m ≤ 1048576) (ha : Rd w A n (ints sq)) (hb : RdII w B m L) (hL : ∀ ys ∈ L, ys.length ≤ 1048576) :
    Calls Tryz.prog 167 #[.agg #[.int .i64 P, .slice A n c], .slice B m d] w fun e w' => e = .returned (.int .i64 (codeLs P sq L)) ∧ Below w.heap.size w w' := by
  have hB0 : Below w.heap.size w (w.alloc (.cells #[.int .i64 P, .slice A n c] 26)) := (Below.refl _ _).alloc (Nat.le_refl _) _
  have k0 : Blk (w.alloc (.cells #[.int .i64 P, .slice A n c] 26)) w.heap.size 26 #[.int .i64 P, .slice A n c] := Blk.new _ _ _
  have hli := checkVectors_any P A B n c m d sq L (w.alloc (.cells #[.int .i64 P, .slice A n c] 26)) hn hm (ha.below hB0) (hb.below hB0) hL
  have hlen := hb.len
  obtain ⟨r1, h1⟩ : ∃ r, r = codeV P sq L := ⟨_, rfl⟩
  rw [← h1] at hli
  obtain ⟨q0, q1⟩ := k0.two
  by_cases e1 : r1 = 0
  · have b1 : (r1 != 0) = false := by simp [e1]
    by_cases h16 : m ≤ 16
    · have HC : Hid (codeLs P sq L = 0) := Lib.hid (by unfold codeLs; rw [← h1, if_pos e1, if_neg (by omega)])
      have t1 : decide ((16 : Int) < (m : Int)) = false := by simp; omega
      clear h1 e1 hlen
      go_enter Tryz.func167, Tryz.ntmps167
      go_wp2_with fail
      refine hli.mono ?_
      rintro e w1 ⟨rfl, hb1⟩
      go_wp2
      go_ret
      exact ⟨ret_int HC.out.symm, hB0.trans (hb1.mono hB0.size)⟩
    · have HC : Hid (codeLs P sq L = 2) := Lib.hid (by unfold codeLs; rw [← h1, if_pos e1, if_pos (by omega)])
      have t1 : decide ((16 : Int) < (m : Int)) = true := by simp; omega
      clear h1 e1 hlen
      go_enter Tryz.func167, Tryz.ntmps167
      go_wp2_with fail
      refine hli.mono ?_
      rintro e w1 ⟨rfl, hb1⟩
      go_wp2
      go_ret
      exact ⟨ret_int HC.out.symm, hB0.trans (hb1.mono hB0.size)⟩
  · have b1 : (r1 != 0) = true := by simp [e1]
    have HC : Hid (codeLs P sq L = r1) := Lib.hid (by unfold codeLs; rw [← h1, if_neg e1])
    clear h1 e1 hlen
    go_enter Tryz.func167, Tryz.ntmps167
    go_wp2_with fail
    refine hli.mono ?_
    rintro e w1 ⟨rfl, hb1⟩
    go_wp2
    go_ret
    exact ⟨ret_int HC.out.symm, hB0.trans (hb1.mono hB0.size)⟩
end Go.Proofs.YtggigolkncckoaaGreat
namespace Go.Proofs.YtggigolkncckoaaGreat
open Go.RowKit
theorem RdII.nil (w : World) (A : Option Addr) : RdII w A 0 [] := ⟨[], Rd.nil w A, rfl, fun k h => absurd h (by simp)⟩
end Go.Proofs.YtggigolkncckoaaGreat
namespace Go.Proofs.YtggigolkncckoaaGreat
section
variable {P : Int} {sq xs ys : List Int}
end
theorem codeM_mk {P : Int} {sq : List Int} {ms : List (List Int)} (h1 : isSp P sq = true) (h : ∀ ys ∈ ms, ys.length = pw sq.length ∧ NumsL P ys) : codeM P sq ms = 0 := by
  unfold codeM
  rw [if_pos h1, if_neg]
  intro hh
  obtain ⟨ys, hy, e⟩ := List.any_eq_true.1 hh
  obtain ⟨h2, h3⟩ := h ys hy
  have h4 : isMu P sq ys = true := by
    unfold isMu nums
    rw [h2, Bool.and_eq_true]
    refine ⟨by simp, List.all_eq_true.2 fun x hx => ?_⟩
    have := h3 x hx
    simp [inR]
    omega
  rw [h4] at e
  simp at e
end Go.Proofs.YtggigolkncckoaaGreat
namespace Go.Proofs.YtggigolkncckoaaGreat
section
variable {p : Int} {sq : List Int}
theorem cg_wit {p a b : Int} : a % p = b % p ↔ ∃ k, a = b + p * k := by
  constructor
  · intro h
    have h1 := Int.emod_add_mul_ediv a p
    have h2 := Int.emod_add_mul_ediv b p
    exact ⟨a / p - b / p, by grind⟩
  · rintro ⟨k, rfl⟩
    rw [Int.add_mul_emod_self_left]
end
end Go.Proofs.YtggigolkncckoaaGreat
namespace Go.Proofs.YtggigolkncckoaaGreat
section
variable {p : Int} {sq : List Int}
instance : Std.Associative (α := Cl p sq) (· + ·) := ⟨Cl.add_assoc⟩
instance : Std.Commutative (α := Cl p sq) (· + ·) := ⟨Cl.add_comm⟩
end
end Go.Proofs.YtggigolkncckoaaGreat
namespace Go.Proofs.YtggigolkncckoaaGreat
section
variable {p : Int} {sq : List Int}
theorem inv_one (hP : isP p = true) {a : Int} (h0 : 0 ≤ a ∧ a < p) (ha : a ≠ 0) : a * invF p a % p = 1 % p := by
  have h3 := (isP_ge hP).1
  have := inv_mod hP (a := a) (by rw [Int.emod_eq_of_lt h0.1 h0.2]; exact ha)
  rw [Int.emod_eq_of_lt h0.1 h0.2] at this
  rw [this, Int.emod_eq_of_lt (by omega) (by omega)]
theorem Cl.prod_append (hp : 0 < p) (a b : List (List Int)) : (Cl.prod hp (a ++ b) : Cl p sq) = Cl.prod hp a * Cl.prod hp b := by
  unfold Cl.prod
  rw [List.foldl_append]
  exact Cl.prod_from hp b _
/-- A good list of vectors: of the right length, numbers, norms other than 0. -/
def Good (p : Int) (sq : List Int) (L : List (List Int)) : Prop := ∀ v ∈ L, v.length = sq.length ∧ NumsL p v ∧ bil sq v v % p ≠ 0
theorem Good.ne {L : List (List Int)} (h : Good p sq L) : ∀ v ∈ L, bil sq v v % p ≠ 0 := fun v hv => (h v hv).2.2
theorem Good.nums {L : List (List Int)} (h : Good p sq L) : ∀ v ∈ L, NumsL p v := fun v hv => (h v hv).2.1
end
end Go.Proofs.YtggigolkncckoaaGreat
namespace Go.Proofs.YtggigolkncckoaaGreat
section
variable {P : Int} {sq : List Int} {n : Nat} {xs : List Int}
theorem orth_trans {p : Int} {N K : Nat} {M : List (List Int)} (hT : Tab p N M) (hl : M.length = K) (h0 : 0 < K) (v : Nat → Int) : Orth p K (transL M) v ↔ ∀ i, i < N → (sumTo K fun q => ent M q i * v q) % p = 0 := by
  unfold Orth
  rw [transL_len hT (by omega)]
  refine forall_congr' fun i => forall_congr' fun hi => ?_
  have : (sumTo K fun q => ent (transL M) i q * v q) = sumTo K fun q => ent M q i * v q := sumTo_congr fun q hq => by
    have e : ent (transL M) i q = ent M q i := by
      show ((transL M).getD i []).getD q 0 = _
      unfold transL
      rw [row0_len hT (by omega), tab_getD hi, tab_getD (by omega)]
    rw [e]
  rw [this]
end
end Go.Proofs.YtggigolkncckoaaGreat
namespace Go.Proofs.YtggigolkncckoaaGreat
section
variable {p : Int} {sq : List Int}
/-- The multivector with 1 at one place. -/
def Cl.at_ (hp : 0 < p) (m : Nat) : Cl p sq := Cl.of hp fun q => if q = m then 1 else 0
theorem Cl.zero_all (hp : 0 < p) : ∀ y ∈ (Cl.zero hp : Cl p sq).l, y = 0 := fun y hy => by
  obtain ⟨i, hi, rfl⟩ := List.getElem_of_mem hy
  rw [Cl.len] at hi
  have h := Cl.zero_co (sq := sq) hp hi
  rw [Cl.co_mod] at h
  unfold Cl.co at h
  rw [getD_of_lt 0 (by rw [Cl.len]; exact hi)] at h
  exact h
/-- A list and a vector of its span have as many in their basis as the list. -/
theorem span_len (hP : isP p = true) {n : Nat} {L : List (List Int)} {v : List Int} (hL : Tab p n L) (hv : v.length = n ∧ NumsL p v) (h : Sp p n L (fun q => v.getD q 0)) : (basisL p (L ++ [v])).length = (basisL p L).length := by
  rw [basisL_same hP (hL.snoc hv) hL (InSp.append (InSp.refl _ _ _) (InSp.of_mem fun x hx => by rw [List.mem_singleton.1 hx]; exact h)) (InSp.of_sub fun x hx => List.mem_append_left _ hx)]
end
end Go.Proofs.YtggigolkncckoaaGreat
namespace Go.Proofs.YtggigolkncckoaaGreat
/-- All squares 0. -/
abbrev zs (n : Nat) : List Int := List.replicate n 0
theorem zs_len (n : Nat) : (zs n).length = n := List.length_replicate
theorem zs_get (n i : Nat) : (zs n).getD i 0 = 0 := by
  rw [List.getD_eq_getElem?_getD, List.getElem?_replicate]; split <;> rfl
theorem comZ_apart (sq : List Int) {a b : Nat} (h : ∀ i, ¬ (bit b i = 1 ∧ bit a i = 1)) : ∀ k, comZ sq a b k = 1 := by
  intro k
  induction k with
  | zero => rfl
  | succ k ih => simp only [comZ]; rw [ih, if_neg (h k)]; rfl
theorem comZ_hit (n : Nat) {a b i : Nat} (h : bit b i = 1 ∧ bit a i = 1) : ∀ k, i < k → comZ (zs n) a b k = 0 := by
  intro k
  induction k with
  | zero => intro h; omega
  | succ k ih =>
    intro hk
    simp only [comZ]
    by_cases e : i = k
    · subst e; rw [if_pos h, zs_get, Int.mul_zero]
    · rw [ih (by omega), Int.zero_mul]
theorem and_zero_iff (a b : Nat) : (a &&& b = 0) ↔ ∀ i, ¬ (bit b i = 1 ∧ bit a i = 1) := by
  constructor
  · intro h i hi
    have := congrArg (fun x => x.testBit i) h
    simp only [Nat.testBit_and, Nat.zero_testBit, (bit_iff a i).1 hi.2, (bit_iff b i).1 hi.1] at this
    exact absurd this (by decide)
  · intro h
    refine Nat.eq_of_testBit_eq fun i => ?_
    rw [Nat.testBit_and, Nat.zero_testBit]
    cases ha : a.testBit i
    · rfl
    · cases hb : b.testBit i
      · rfl
      · exact absurd ⟨(bit_iff b i).2 hb, (bit_iff a i).2 ha⟩ (h i)
theorem facZ_apart {sq : List Int} {n a b : Nat} (hn : sq.length = n) (h : a &&& b = 0) : facZ sq a b = facZ (zs n) a b := by
  unfold facZ
  rw [hn, zs_len, comZ_apart sq ((and_zero_iff a b).1 h), comZ_apart (zs n) ((and_zero_iff a b).1 h)]
theorem facZ_hit {n a b : Nat} (ha : a < pw n) (h : ¬ a &&& b = 0) : facZ (zs n) a b = 0 := by
  unfold facZ
  rw [zs_len]
  have h1 : ¬ ∀ i, ¬ (bit b i = 1 ∧ bit a i = 1) := fun h2 => h ((and_zero_iff a b).2 h2)
  obtain ⟨i, hi⟩ := Classical.not_forall.1 h1
  have hi' := Classical.not_not.1 hi
  have hin : i < n := by
    rcases Nat.lt_or_ge i n with h | h
    · exact h
    · have := bit_high (b := a) (n := n) ha h
      rw [this] at hi'
      exact absurd hi'.2 (by decide)
  rw [comZ_hit n hi' n hin, Int.mul_zero]
section
variable {p : Int} {n : Nat}
/-- Outer products are products with all squares 0. -/
theorem wedge_mul {sq : List Int} (hn : sq.length = n) {xs ys : List Int} (hx : xs.length = pw n) (hy : ys.length = pw n) : wedgeL p sq xs ys = mulL p (zs n) xs ys := by
  refine list_ext_getD 0 (by rw [wedgeL_len, mulL_len]) fun m hm => ?_
  rw [wedgeL_len, hx] at hm
  unfold wedgeL mulL
  rw [prodL_getD p sq _ xs ys n m hx hy hm, prodL_getD p (zs n) _ xs ys n m hx hy hm]
  refine sumTo_mod p fun a ha => ?_
  unfold term
  by_cases h : a &&& (a ^^^ m) = 0
  · have hb : (fun a b : Nat => a &&& b == 0) a (a ^^^ m) = true := by show (a &&& (a ^^^ m) == 0) = true; rw [h]; rfl
    rw [if_pos hb, if_pos rfl, Int.mul_emod, fac_facZ, facZ_apart hn h, ← fac_facZ, ← Int.mul_emod]
  · rw [if_neg (by simpa using h), if_pos rfl, Int.mul_emod, fac_facZ, facZ_hit ha h, Int.zero_emod, Int.mul_zero, Int.zero_emod]
theorem wedge_cl' {sq : List Int} (hn : sq.length = n) (x y : Cl p (zs n)) : wedgeL p sq x.l y.l = (x * y).l := by
  rw [wedge_mul hn (x.len.trans (by rw [zs_len])) (y.len.trans (by rw [zs_len])), Cl.mul_l]
theorem bil_zs (u v : List Int) : bil (zs n) u v = 0 := by
  unfold bil
  exact sumTo_zero fun i _ => by rw [zs_get, Int.mul_zero]
theorem Cl.zz (hp : 0 < p) (hP : isP p = true) (v : List Int) : (Cl.vec hp v : Cl p (zs n)) * Cl.vec hp v = Cl.zero hp := by
  rw [Cl.vec_sq hp hP, bil_zs, Cl.zero_sm]
theorem Cl.za (hp : 0 < p) (u v : List Int) : (Cl.vec hp u : Cl p (zs n)) * Cl.vec hp v = (-1 : Int) * (Cl.vec hp v * Cl.vec hp u) := by
  have h := Cl.vec_anti hp u v (sq := zs n)
  rw [bil_zs, Int.mul_zero, Cl.zero_sm] at h
  have e := Cl.add_back ((Cl.vec hp u : Cl p (zs n)) * Cl.vec hp v) (Cl.vec hp v * Cl.vec hp u) 1
  rw [Cl.one_sm] at e
  rw [← e, h, Cl.add_comm, Cl.add_zero]
/-- A vector of the list times the product of the list is 0. -/
theorem Cl.in_prod (hp : 0 < p) (hP : isP p = true) : ∀ (L : List (List Int)) (v : List Int), v ∈ L → (Cl.vec hp v : Cl p (zs n)) * Cl.prod hp L = Cl.zero hp
  | [], v, h => by cases h
  | u :: L, v, h => by
    rw [Cl.prod_cons]
    rcases List.mem_cons.1 h with rfl | h
    · rw [← Cl.mul_assoc, Cl.zz hp hP, Cl.zero_mul]
    · rw [← Cl.mul_assoc, Cl.za, Cl.sm_mul, Cl.mul_assoc, Cl.in_prod hp hP L v h, Cl.mul_zero, ← Cl.zero_sm (Cl.one hp), Cl.sm_sm, Int.mul_zero]
theorem Cl.vec_cg (hp : 0 < p) {sq : List Int} {u v : List Int} (h : ∀ q, q < sq.length → u.getD q 0 % p = v.getD q 0 % p) : (Cl.vec hp u : Cl p sq) = Cl.vec hp v := Cl.same fun m hm => by
  rw [Cl.vec_co hp u hm, Cl.vec_co hp v hm]
  exact sumTo_mod p fun i hi => by split
                                   · exact h i hi
                                   · rfl
theorem Cl.vec_sp (hp : 0 < p) {sq : List Int} {B : List (List Int)} {v : List Int} {c : Nat → Int} (h : ∀ q, q < sq.length → v.getD q 0 % p = (sumTo B.length fun i => c i * ent B i q) % p) :
    (Cl.vec hp v : Cl p sq) = Cl.sum hp B.length fun i => c i * Cl.vec hp (B.getD i []) := Cl.same fun m hm => by
  rw [Cl.vec_co hp v hm, Cl.sum_co hp _ hm]
  have e2 : (sumTo B.length fun i => (c i * Cl.vec hp (B.getD i []) : Cl p sq).co m) % p = (sumTo B.length fun i => c i * sumTo sq.length fun q => if m = 2 ^ q then (B.getD i []).getD q 0 else 0) % p :=
    sumTo_mod p fun i _ => by rw [Cl.sm_co _ _ hm, Int.mul_emod, Cl.vec_co hp _ hm, ← Int.mul_emod]
  rw [e2]
  rcases Classical.em (∃ q, q < sq.length ∧ m = 2 ^ q) with ⟨q, hq, rfl⟩ | hno
  · rw [sumTo_one q hq fun j _ hne => if_neg fun e => hne (pow_inj e).symm, if_pos rfl, h q hq]
    refine sumTo_mod p fun i _ => ?_
    rw [sumTo_one q hq fun j _ hne => if_neg fun e => hne (pow_inj e).symm, if_pos rfl]; rfl
  · rw [sumTo_zero fun q hq => if_neg fun e => hno ⟨q, hq, e⟩, sumTo_zero fun i _ => by rw [sumTo_zero fun q hq => if_neg fun e => hno ⟨q, hq, e⟩, Int.mul_zero]]
theorem Cl.sum_mul (hp : 0 < p) {sq : List Int} (y : Cl p sq) (f : Nat → Cl p sq) : ∀ k, Cl.sum hp k f * y = Cl.sum hp k fun i => f i * y := by
  intro k
  induction k with
  | zero => exact Cl.zero_mul hp y
  | succ k ih => show (Cl.sum hp k f + f k) * y = _; rw [Cl.add_mul, ih]; rfl
theorem Cl.sum_zero (hp : 0 < p) {sq : List Int} {f : Nat → Cl p sq} : ∀ k, (∀ i, i < k → f i = Cl.zero hp) → Cl.sum hp k f = Cl.zero hp
  | 0, _ => rfl
  | k + 1, h => by
    show Cl.sum hp k f + f k = _
    rw [Cl.sum_zero hp k fun i hi => h i (by omega), h k (by omega), Cl.add_zero]
/-- A vector of the span times the product is 0. -/
theorem Cl.span_prod (hp : 0 < p) (hP : isP p = true) {B : List (List Int)} {v : List Int} (h : Sp p n B fun q => v.getD q 0) : (Cl.vec hp v : Cl p (zs n)) * Cl.prod hp B = Cl.zero hp := by
  obtain ⟨c, hc⟩ := h
  rw [Cl.vec_sp hp (B := B) (c := c) (fun q hq => hc q (by rw [zs_len] at hq; exact hq)), Cl.sum_mul]
  refine Cl.sum_zero hp _ fun i hi => ?_
  rw [Cl.sm_mul, Cl.in_prod hp hP B _ (getD_mem [] hi), ← Cl.zero_sm (Cl.one hp), Cl.sm_sm, Int.mul_zero]
/-- A vector times a multivector, at a place. -/
theorem Cl.vec_mul_co (hp : 0 < p) {sq : List Int} (v : List Int) (y : Cl p sq) {m : Nat} (hm : m < pw sq.length) : (Cl.vec hp v * y : Cl p sq).co m % p = (sumTo sq.length fun i => v.getD i 0 * y.co (2 ^ i ^^^ m) * facZ sq (2 ^ i) (2 ^ i ^^^ m)) % p := by
  rw [Cl.mul_co _ _ hm, mulZ_cg p sq (fun a ha => Cl.vec_co hp v ha) (fun a ha => rfl) hm]
  unfold mulZ
  rw [sumTo_congr (g := fun a => sumTo sq.length fun i => if a = 2 ^ i then v.getD i 0 * y.co (2 ^ i ^^^ m) * facZ sq (2 ^ i) (2 ^ i ^^^ m) else 0) fun a ha => ?_, sumTo_comm]
  · congr 1
    refine sumTo_congr fun i hi => ?_
    rw [sumTo_one (2 ^ i) (two_lt hi) fun a _ hne => if_neg hne, if_pos rfl]
  · rw [← sumTo_mul_right, ← sumTo_mul_right]
    refine sumTo_congr fun i _ => ?_
    by_cases h : a = 2 ^ i
    · rw [if_pos h, if_pos h, h]
    · rw [if_neg h, if_neg h, Int.zero_mul, Int.zero_mul]
theorem pow_and (i m : Nat) : (2 ^ i &&& (2 ^ i ^^^ m) = 0) ↔ m.testBit i = true := by
  have h := and_pow_zero m i
  rw [Nat.and_comm, Nat.xor_comm]
  constructor
  · intro e; rw [← h, e]; rfl
  · intro e; rw [e] at h; simpa using h
theorem wedges_prod {sq : List Int} (hn : sq.length = n) (hp : 0 < p) (h2 : 2 ≤ p) : ∀ (k : Nat) (L : List (List Int)), L.length = k → (∀ v ∈ L, NumsL p v) → wedgesL p sq n L = (Cl.prod hp L : Cl p (zs n)).l := by
  intro k
  induction k with
  | zero =>
    intro L h _
    rw [List.eq_nil_of_length_eq_zero h]
    show bladeL n 0 = (Cl.one hp : Cl p (zs n)).l
    rw [Cl.one_l h2, zs_len]
  | succ k ih =>
    intro L h hN
    have hne : L ≠ [] := fun e => by rw [e] at h; cases h
    rw [← List.dropLast_concat_getLast hne] at hN ⊢
    rw [wedgesL_snoc, Cl.prod_snoc, ih L.dropLast (by rw [List.length_dropLast]; omega) fun v hv => hN v (List.mem_append_left _ hv)]
    have hv := hN (L.getLast hne) (by simp)
    have e : vecTo n (L.getLast hne) n = (Cl.vec hp (L.getLast hne) : Cl p (zs n)).l := by rw [Cl.vec_l hp hv, zs_len]
    rw [e, wedge_cl' hn]
/-- A vector whose outer product with that of a reduced basis is 0 lies in its span. -/
theorem Cl.prod_span (hp : 0 < p) (hP : isP p = true) {B : List (List Int)} (hR : Red n B) (hT : Tab p n B) {v : List Int} (h : (Cl.vec hp v : Cl p (zs n)) * Cl.prod hp B = Cl.zero hp) : Sp p n B fun q => v.getD q 0 := by
  have h3 := (isP_ge hP).1
  refine ⟨fun i => v.getD (ld B i) 0, fun q hq => ?_⟩
  show v.getD q 0 % p = (sumTo B.length fun i => v.getD (ld B i) 0 * ent B i q) % p
  obtain ⟨u, hu⟩ : ∃ u : List Int, u = tab n fun q => v.getD q 0 - sumTo B.length fun i => v.getD (ld B i) 0 * ent B i q := ⟨_, rfl⟩
  have hug : ∀ q, q < n → u.getD q 0 = v.getD q 0 - sumTo B.length fun i => v.getD (ld B i) 0 * ent B i q := fun q hq => by rw [hu, tab_getD hq]
  have hld : ∀ j, j < B.length → u.getD (ld B j) 0 = 0 := fun j hj => by
    rw [hug _ (hR.lt j hj), sumTo_one j hj fun i hi hne => by rw [hR.zero j i hj hi hne, Int.mul_zero], hR.one j hj]; omega
  suffices hz : u.getD q 0 % p = 0 by
    rw [hug q hq] at hz
    obtain ⟨k, hk⟩ := cg_wit.1 (hz.trans (Int.zero_emod p).symm)
    exact cg_wit.2 ⟨k, by omega⟩
  by_cases hl : isLd B q = true
  · obtain ⟨j, hj, rfl⟩ := isLd_iff.1 hl
    rw [hld j hj, Int.zero_emod]
  · -- the product with u is 0, too
    have hw : (Cl.vec hp (tab n fun q => sumTo B.length fun i => v.getD (ld B i) 0 * ent B i q) : Cl p (zs n)) * Cl.prod hp B = Cl.zero hp :=
      Cl.span_prod hp hP ⟨fun i => v.getD (ld B i) 0, fun q hq => by
        show (tab n fun q => sumTo B.length fun i => v.getD (ld B i) 0 * ent B i q).getD q 0 % p = _
        rw [tab_getD hq]⟩
    have hv : (Cl.vec hp v : Cl p (zs n)) = Cl.vec hp u + Cl.vec hp (tab n fun q => sumTo B.length fun i => v.getD (ld B i) 0 * ent B i q) := by
      have e := Cl.vec_plus hp (sq := zs n) (a := u) (b := tab n fun q => sumTo B.length fun i => v.getD (ld B i) 0 * ent B i q) (by rw [hu, tab_len, zs_len]) 1
      rw [Cl.one_sm] at e
      rw [← e]
      refine Cl.vec_cg hp fun q hq => ?_
      rw [zs_len] at hq
      rw [plusL_getD _ _ (by rw [hu, tab_len]; exact hq), hug q hq, tab_getD hq, cg_self, Int.one_mul]
      congr 1; omega
    have h0 : (Cl.vec hp u : Cl p (zs n)) * Cl.prod hp B = Cl.zero hp := by
      rw [hv, Cl.add_mul, hw, Cl.add_zero] at h; exact h
    have hMlt := maskTo_lt hR B.length (Nat.le_refl _)
    obtain ⟨M, hM⟩ : ∃ M, M = maskTo B B.length := ⟨_, rfl⟩
    rw [← hM] at hMlt
    have hqM : M.testBit q = false := by
      cases e : M.testBit q
      · rfl
      · rw [hM] at e; exact absurd (maskTo_bits B B.length (Nat.le_refl _) q e) hl
    have hmlt : 2 ^ q ^^^ M < pw n := xor_lt (two_lt hq) hMlt
    have hco := Cl.vec_mul_co hp u (Cl.prod hp B : Cl p (zs n)) (m := 2 ^ q ^^^ M) (by rw [zs_len]; exact hmlt)
    rw [h0, Cl.zero_co hp (by rw [zs_len]; exact hmlt), zs_len, sumTo_one q hq fun i hi hne => ?_] at hco
    · have hW : (Cl.prod hp B : Cl p (zs n)).co (2 ^ q ^^^ (2 ^ q ^^^ M)) = 1 := by
        rw [xor_self_left]
        unfold Cl.co
        rw [← wedges_prod (sq := zs n) (zs_len n) hp (by omega) B.length B rfl fun v hv => (hT v hv).2]
        have := wedges_at (P := p) (by omega) (zs n) hR B.length (Nat.le_refl _) M hMlt (fun i hi => by rw [hM] at hi; exact maskTo_bits B B.length (Nat.le_refl _) i hi)
        rw [List.take_length, ← hM, if_pos rfl] at this
        exact this
      have hF : facZ (zs n) (2 ^ q) (2 ^ q ^^^ (2 ^ q ^^^ M)) * facZ (zs n) (2 ^ q) (2 ^ q ^^^ (2 ^ q ^^^ M)) = 1 := by
        rw [xor_self_left]
        unfold facZ
        rw [comZ_apart (zs n) ((and_zero_iff _ _).1 (by
          have := (pow_and q (2 ^ q ^^^ M)).2 (by rw [Nat.testBit_xor, Nat.testBit_two_pow_self, hqM]; rfl)
          rwa [xor_self_left] at this)), Int.mul_one, sg_two]
      rw [hW, Int.mul_one] at hco
      obtain ⟨k, hk⟩ := cg_wit.1 (((Int.zero_emod p).trans hco).symm.trans (Int.zero_emod p).symm)
      have : (u.getD q 0) = 0 + p * (k * facZ (zs n) (2 ^ q) (2 ^ q ^^^ (2 ^ q ^^^ M))) := by grind
      exact (cg_wit (b := 0)).2 ⟨_, this⟩ |>.trans (Int.zero_emod p)
    · -- another place
      by_cases hb : (2 ^ q ^^^ M).testBit i = true
      · have hiM : M.testBit i = true := by
          rw [Nat.testBit_xor, Nat.testBit_two_pow] at hb
          simpa [Ne.symm hne] using hb
        rw [hM] at hiM
        obtain ⟨j, hj, rfl⟩ := isLd_iff.1 (maskTo_bits B B.length (Nat.le_refl _) i hiM)
        rw [hld j hj, Int.zero_mul, Int.zero_mul]
      · rw [facZ_hit (two_lt hi) (fun e => hb ((pow_and i _).1 e)), Int.mul_zero]
/-- What the subspace of a multivector has: the vectors whose outer product with it is 0. -/
theorem sub_sp {sq : List Int} (hn : sq.length = n) (h0 : 0 < n) (hp : 0 < p) (hP : isP p = true) (x : Cl p (zs n)) (v : List Int) : Sp p n (subL p sq n x.l) (fun q => v.getD q 0) ↔ (Cl.vec hp v : Cl p (zs n)) * x = Cl.zero hp := by
  have h3 := (isP_ge hP).1
  have hT := wcolsL_tab (P := p) hp sq n x.l
  unfold subL
  rw [kernL_sp hP (by have := transL_tab hp hT; rwa [wcolsL_len] at this), orth_trans hT (wcolsL_len _ _ _ _) h0]
  have e : ∀ i, i < pw n → (sumTo n fun q => ent (wcolsL p sq n x.l) q i * v.getD q 0) % p = ((Cl.vec hp v : Cl p (zs n)) * x).co i % p := fun i hi => by
    rw [Cl.vec_sum hp v, Cl.sum_mul, Cl.sum_co hp _ (by rw [zs_len]; exact hi), zs_len]
    refine sumTo_mod p fun q hq => ?_
    rw [Cl.sm_mul, Cl.sm_co _ _ (by rw [zs_len]; exact hi), Int.mul_comm]
    have e1 : ent (wcolsL p sq n x.l) q i = ((Cl.vec hp (unitRow n q) : Cl p (zs n)) * x).co i := by
      unfold ent wcolsL
      rw [tab_getD hq]
      unfold wcolL
      have e2 : vecTo n (unitRow n q) n = (Cl.vec hp (unitRow n q) : Cl p (zs n)).l := by rw [Cl.vec_l hp (unitRow_nums (by omega) _ _), zs_len]
      rw [e2, wedge_cl' hn]; rfl
    rw [e1]
  constructor
  · intro h
    refine Cl.same fun m hm => ?_
    rw [zs_len] at hm
    rw [← e m hm, h m hm, Cl.zero_co hp (by rw [zs_len]; exact hm)]
  · intro h i hi
    rw [e i hi, h, Cl.zero_co hp (by rw [zs_len]; exact hi)]
/-- The subspace of the outer product of a reduced basis has this basis. -/
theorem sub_wedges {sq : List Int} (hn : sq.length = n) (h0 : 0 < n) (hP : isP p = true) {B : List (List Int)} (hR : Red n B) (hT : Tab p n B) : subL p sq n (wedgesL p sq n B) = B := by
  have h3 := (isP_ge hP).1
  have hp : 0 < p := by omega
  rw [wedges_prod hn hp (by omega) B.length B rfl fun v hv => (hT v hv).2]
  have hk : Tab p n (subL p sq n (Cl.prod hp B : Cl p (zs n)).l) := by unfold subL; exact kernL_tab (by omega) _ _
  refine Red.unique (p := p) (by omega) (by unfold subL; exact kernL_red hP _ _) hR hk hT (fun i hi => ?_) fun i hi => ?_
  · have h := (sub_sp hn h0 hp hP (Cl.prod hp B) ((subL p sq n (Cl.prod hp B : Cl p (zs n)).l).getD i [])).1 (Sp.row hi)
    exact Cl.prod_span hp hP hR hT h
  · exact (sub_sp hn h0 hp hP (Cl.prod hp B) (B.getD i [])).2 (Cl.span_prod hp hP (Sp.row hi))
/-- Products of k vectors have grade k alone. -/
theorem pc_down : ∀ m : Nat, m < 64 → ∀ i : Nat, i < 6 → m.testBit i = true → pc (2 ^ i ^^^ m) + 1 = pc m := by decide +kernel
theorem Cl.prod_grade (hp : 0 < p) (h6 : n ≤ 6) : ∀ (L : List (List Int)) (m : Nat), m < pw n → (Cl.prod hp L : Cl p (zs n)).co m ≠ 0 → pc m = L.length
  | [], m, hm, h => by
    have e := Cl.one_co (sq := zs n) hp (m := m) (by rw [zs_len]; exact hm)
    by_cases h0 : m = 0
    · rw [h0, pc_zero]; rfl
    · rw [if_neg h0, Int.zero_emod, Cl.co_mod] at e
      exact absurd e h
  | v :: L, m, hm, h => by
    have hpw : pw n ≤ 64 := pw_le h6
    rcases Classical.em (∃ i, i < n ∧ m.testBit i = true ∧ (Cl.prod hp L : Cl p (zs n)).co (2 ^ i ^^^ m) ≠ 0) with ⟨i, hi, hb, hne⟩ | hno
    · have h1 := Cl.prod_grade hp h6 L _ (xor_lt (two_lt hi) hm) hne
      have h2 := pc_down m (by omega) i (by omega) hb
      rw [List.length_cons]; omega
    · exfalso
      refine h ?_
      rw [Cl.prod_cons, ← Cl.co_mod, Cl.vec_mul_co hp v _ (by rw [zs_len]; exact hm), zs_len, sumTo_zero fun i hi => ?_, Int.zero_emod]
      by_cases hb : m.testBit i = true
      · have : (Cl.prod hp L : Cl p (zs n)).co (2 ^ i ^^^ m) = 0 := Classical.byContradiction fun h1 => hno ⟨i, hi, hb, h1⟩
        rw [this, Int.mul_zero, Int.zero_mul]
      · rw [facZ_hit (two_lt hi) (fun e => hb ((pow_and i _).1 e)), Int.mul_zero]
/-- The outer product of a reduced basis is a blade. -/
theorem blade_wedges {sq : List Int} (hn : sq.length = n) (h0 : 0 < n) (h6 : n ≤ 6) (hP : isP p = true) {B : List (List Int)} (hR : Red n B) (hT : Tab p n B) : isBl p sq n (wedgesL p sq n B) = true := by
  have h3 := (isP_ge hP).1
  have hp : 0 < p := by omega
  have hsub := sub_wedges hn h0 hP hR hT
  have hpr := wedges_prod hn hp (by omega) B.length B rfl fun v hv => (hT v hv).2
  have hpw : pw n ≤ 64 := pw_le h6
  have hl : (wedgesL p sq n B).length = pw n := wedgesL_len p sq n _ _ rfl
  have hall : ∀ g ∈ gradesL (wedgesL p sq n B), g = ((B.length : Nat) : Int) := fun g hg => by
    obtain ⟨i, hi, hne, rfl⟩ := (gradesL_mem _ (by rw [hl]; exact hpw) g).1 hg
    rw [hl] at hi
    rw [hpr] at hne
    rw [Cl.prod_grade hp h6 B i hi hne]
  have hmem : ((B.length : Nat) : Int) ∈ gradesL (wedgesL p sq n B) := by
    have hMlt := maskTo_lt hR B.length (Nat.le_refl _)
    have h1 := wedges_at (P := p) (by omega) sq hR B.length (Nat.le_refl _) (maskTo B B.length) hMlt (fun i hi => maskTo_bits B B.length (Nat.le_refl _) i hi)
    rw [List.take_length, if_pos rfl] at h1
    have h2 := (gradesL_mem _ (by rw [hl]; exact hpw) ((pc (maskTo B B.length) : Nat) : Int)).2 ⟨_, by rw [hl]; exact hMlt, by rw [h1]; decide, rfl⟩
    rw [← hall _ h2]; exact h2
  have hlen : gradesL (wedgesL p sq n B) = [((B.length : Nat) : Int)] := by
    have hs := gradesL_lt (wedgesL p sq n B)
    match hg : gradesL (wedgesL p sq n B), hs, hmem, hall with
    | [], _, hm, _ => cases hm
    | [a], _, _, ha => rw [ha a (by simp)]
    | a :: b :: t, hs, _, ha =>
      exfalso
      have h1 := ha a (by simp)
      have h2 := ha b (by simp)
      have h4 := (List.pairwise_cons.1 hs).1 b (by simp)
      omega
  unfold isBl
  rw [hlen, hsub]
  simp
end
end Go.Proofs.YtggigolkncckoaaGreat
namespace Go.Proofs.YtggigolkncckoaaGreat
section
variable {p : Int} {n : Nat}
theorem Cl.zero_addz (x : Cl p (zs n)) (hp : 0 < p) : Cl.zero hp + x = x := by rw [Cl.add_comm, Cl.add_zero]
theorem Cl.sm_zero (hp : 0 < p) {sq : List Int} (k : Int) : k * (Cl.zero hp : Cl p sq) = Cl.zero hp := by
  rw [← Cl.zero_sm (Cl.one hp), Cl.sm_sm, Int.mul_zero]
/-- The mask that has all leads tells all others. -/
theorem Cl.descent (hp : 0 < p) {B : List (List Int)} (hR : Red n B) (y : Cl p (zs n)) (hv : ∀ j, j < B.length → (Cl.vec hp (B.getD j []) : Cl p (zs n)) * y = Cl.zero hp)
    (h0 : ∀ m, m < pw n → (∀ j, j < B.length → m.testBit (ld B j) = true) → y.co m = 0) :
    ∀ k, k ≤ B.length → ∀ m, m < pw n → (∀ j, k ≤ j → j < B.length → m.testBit (ld B j) = true) → y.co m = 0 := by
  intro k
  induction k with
  | zero => exact fun _ m hm hb => h0 m hm fun j hj => hb j (Nat.zero_le _) hj
  | succ k ih =>
    intro hk m hm hb
    have hkl : k < B.length := by omega
    by_cases ht : m.testBit (ld B k) = true
    · refine ih (by omega) m hm fun j hj hjl => ?_
      rcases Nat.eq_or_lt_of_le hj with rfl | hlt
      · exact ht
      · exact hb j hlt hjl
    · have hl : ld B k < n := hR.lt k hkl
      have hone : (B.getD k []).getD (ld B k) 0 = 1 := hR.one k hkl
      obtain ⟨l, hle⟩ : ∃ l, l = ld B k := ⟨_, rfl⟩
      rw [← hle] at hl ht hone
      have htf : m.testBit l = false := by cases e : m.testBit l; rfl; exact absurd e ht
      have hm' : 2 ^ l ^^^ m < pw n := xor_lt (two_lt hl) hm
      have hbl : (2 ^ l ^^^ m).testBit l = true := by rw [Nat.testBit_xor, Nat.testBit_two_pow_self, htf]; rfl
      have hco := Cl.vec_mul_co hp (B.getD k []) y (m := 2 ^ l ^^^ m) (by rw [zs_len]; exact hm')
      rw [hv k hkl, Cl.zero_co hp (by rw [zs_len]; exact hm'), zs_len, sumTo_one l hl fun i hi hne => ?_] at hco
      · rw [xor_self_left, hone, Int.one_mul] at hco
        have hF : facZ (zs n) (2 ^ l) m * facZ (zs n) (2 ^ l) m = 1 := by
          unfold facZ
          rw [comZ_apart (zs n) ((and_zero_iff _ _).1 (by
            have := (pow_and l (2 ^ l ^^^ m)).2 hbl
            rwa [xor_self_left] at this)), Int.mul_one, sg_two]
        obtain ⟨u, hu⟩ := cg_wit.1 (hco.symm.trans (Int.zero_emod p).symm)
        have h1 : y.co m = 0 + p * (u * facZ (zs n) (2 ^ l) m) := by
          have h2 : y.co m * (facZ (zs n) (2 ^ l) m * facZ (zs n) (2 ^ l) m) = (0 + p * u) * facZ (zs n) (2 ^ l) m := by rw [← Int.mul_assoc, hu]
          rw [hF, Int.mul_one] at h2
          rw [h2, Int.zero_add, Int.zero_add, Int.mul_assoc]
        have h3 := (cg_wit.2 ⟨_, h1⟩).trans (Int.zero_emod p)
        rwa [Cl.co_mod] at h3
      · by_cases hbi : (2 ^ l ^^^ m).testBit i = true
        · have hmi : m.testBit i = true := by
            rw [Nat.testBit_xor, Nat.testBit_two_pow] at hbi
            simpa [Ne.symm hne] using hbi
          cases hli : isLd B i with
          | true =>
            obtain ⟨j, hj, rfl⟩ := isLd_iff.1 hli
            have hjk : k ≠ j := fun e => hne (by rw [hle, e])
            have : (B.getD k []).getD (ld B j) 0 = 0 := hR.zero j k hj hkl hjk
            rw [this, Int.zero_mul, Int.zero_mul]
          | false =>
            have hnl : ∀ j, j < B.length → ld B j ≠ i := fun j hj e => by rw [isLd_iff.2 ⟨j, hj, e⟩] at hli; cases hli
            rw [ih (by omega) (2 ^ i ^^^ (2 ^ l ^^^ m)) (xor_lt (two_lt hi) hm') (fun j hj hjl => by
              rw [Nat.testBit_xor, Nat.testBit_two_pow, Nat.testBit_xor, Nat.testBit_two_pow]
              have h1 := hnl j hjl
              rcases Nat.eq_or_lt_of_le hj with rfl | hlt
              · simp [Ne.symm h1, ← hle, htf, hne]
              · have h2 := hb j hlt hjl
                have h3 : ¬ l = ld B j := fun e => by have := hR.inj hkl hjl (hle ▸ e); omega
                simp [Ne.symm h1, h3, h2]), Int.mul_zero, Int.zero_mul]
        · rw [facZ_hit (two_lt hi) (fun e => hbi ((pow_and i _).1 e)), Int.mul_zero]
theorem pc_full : ∀ a : Nat, a < 64 → ∀ b : Nat, b < 64 → a &&& b = a → pc a = pc b → a = b := by decide +kernel
theorem and_of_bits {a b : Nat} (h : ∀ i, a.testBit i = true → b.testBit i = true) : a &&& b = a := by
  refine Nat.eq_of_testBit_eq fun i => ?_
  rw [Nat.testBit_and]
  cases e : a.testBit i
  · rfl
  · rw [h i e]; rfl
theorem Cl.prod_at (hp : 0 < p) (h2 : 2 ≤ p) {B : List (List Int)} (hR : Red n B) (hT : Tab p n B) : (Cl.prod hp B : Cl p (zs n)).co (maskTo B B.length) = 1 := by
  unfold Cl.co
  rw [← wedges_prod (sq := zs n) (zs_len n) hp h2 B.length B rfl fun v hv => (hT v hv).2]
  have := wedges_at (P := p) h2 (zs n) hR B.length (Nat.le_refl _) _ (maskTo_lt hR _ (Nat.le_refl _)) (fun i hi => maskTo_bits B B.length (Nat.le_refl _) i hi)
  rwa [List.take_length, if_pos rfl] at this
theorem isBl_grade {sq : List Int} (h6 : n ≤ 6) {xs : List Int} (hl : xs.length = pw n) (hb : isBl p sq n xs = true) : ∀ m, m < pw n → xs.getD m 0 ≠ 0 → pc m = (subL p sq n xs).length := fun m hm hne => by
  have hpw : pw n ≤ 64 := pw_le h6
  unfold isBl at hb
  rw [Bool.and_eq_true, decide_eq_true_eq, decide_eq_true_eq] at hb
  have h1 := (gradesL_mem xs (by rw [hl]; exact hpw) ((pc m : Nat) : Int)).2 ⟨m, by rw [hl]; exact hm, hne, rfl⟩
  match hg : gradesL xs, hb, h1 with
  | [a], hb, h1 =>
    have h2 := List.mem_singleton.1 h1
    have h3 : (((subL p sq n xs).length : Nat) : Int) = a := hb.2
    omega
/-- A blade is a multiple of the product of the reduced basis of its subspace. -/
theorem Cl.blade_own {sq : List Int} (hn : sq.length = n) (h0 : 0 < n) (h6 : n ≤ 6) (hP : isP p = true) (hp : 0 < p) (x : Cl p (zs n)) (hb : isBl p sq n x.l = true) :
    x = x.co (maskTo (subL p sq n x.l) (subL p sq n x.l).length) * Cl.prod hp (subL p sq n x.l) := by
  have h3 := (isP_ge hP).1
  have hpw : pw n ≤ 64 := pw_le h6
  have hgr := isBl_grade (sq := sq) h6 (x.len.trans (by rw [zs_len])) hb
  have hv0 := fun j (hj : j < (subL p sq n x.l).length) => (sub_sp hn h0 hp hP x ((subL p sq n x.l).getD j [])).1 (Sp.row hj)
  have hR : Red n (subL p sq n x.l) := by unfold subL; exact kernL_red hP _ _
  have hT : Tab p n (subL p sq n x.l) := by unfold subL; exact kernL_tab (by omega) _ _
  obtain ⟨B, hB⟩ : ∃ B, B = subL p sq n x.l := ⟨_, rfl⟩
  rw [← hB] at hgr hv0 hR hT ⊢
  have hMlt := maskTo_lt hR B.length (Nat.le_refl _)
  have hMat := Cl.prod_at hp (by omega) hR hT
  obtain ⟨M, hM⟩ : ∃ M, M = maskTo B B.length := ⟨_, rfl⟩
  rw [← hM] at hMlt hMat ⊢
  have hMpc : pc M = B.length := Cl.prod_grade hp h6 B M hMlt (by rw [hMat]; decide)
  have hz : x + (-(x.co M)) * Cl.prod hp B = Cl.zero hp := Cl.same fun m hm => by
    rw [Cl.zero_co hp hm]
    rw [zs_len] at hm
    rw [Cl.co_mod]
    refine Cl.descent hp hR _ (fun j hj => ?_) (fun m hm hall => ?_) B.length (Nat.le_refl _) m hm fun j h1 h2 => by omega
    · rw [Cl.mul_add, hv0 j hj, Cl.mul_sm, Cl.in_prod hp hP B _ (getD_mem [] hj), Cl.sm_zero, Cl.add_zero]
    · have hadd := Cl.add_co x ((-(x.co M)) * Cl.prod hp B) (m := m) (by rw [zs_len]; exact hm)
      rw [Cl.co_mod, Int.add_emod, Cl.sm_co _ _ (by rw [zs_len]; exact hm), ← Int.add_emod] at hadd
      rw [hadd]
      by_cases hpc : pc m = B.length
      · have : M = m := pc_full M (by omega) m (by omega) (and_of_bits fun i hi => by
          rw [hM] at hi
          obtain ⟨j, hj, rfl⟩ := isLd_iff.1 (maskTo_bits B B.length (Nat.le_refl _) i hi)
          exact hall j hj) (by rw [hMpc, hpc])
        subst this
        rw [hMat, Int.mul_one, Int.add_right_neg]; rfl
      · have e1 : x.co m = 0 := Classical.byContradiction fun h => hpc (hgr m hm h)
        have e2 : (Cl.prod hp B : Cl p (zs n)).co m = 0 := Classical.byContradiction fun h => hpc (Cl.prod_grade hp h6 B m hm h)
        rw [e1, e2, Int.mul_zero]; rfl
  have h := Cl.add_back x (Cl.prod hp B) (-(x.co M))
  rw [hz, Int.neg_neg, Cl.zero_addz] at h
  exact h.symm
theorem Cl.sm_getD {sq : List Int} (k : Int) (x : Cl p sq) {m : Nat} (hm : m < pw sq.length) : (k * x).l.getD m 0 = (k * x.co m) % p := by
  have h := Cl.sm_co k x hm
  rw [Cl.co_mod] at h; exact h
/-- The factor of a blade. -/
theorem blade_factor {sq : List Int} (hn : sq.length = n) (h0 : 0 < n) (h6 : n ≤ 6) (hP : isP p = true) {xs : List Int} (hl : xs.length = pw n) (hx : NumsL p xs) (hb : isBl p sq n xs = true) :
    xs = scaleL p (wedgesL p sq n (subL p sq n xs)) (facL p xs (ownL p sq n xs)) ∧ 0 ≤ facL p xs (ownL p sq n xs) ∧ facL p xs (ownL p sq n xs) < p := by
  have h3 := (isP_ge hP).1
  have hp : 0 < p := by omega
  obtain ⟨x, rfl⟩ : ∃ x : Cl p (zs n), x.l = xs := ⟨⟨xs, hl.trans (by rw [zs_len]), hx, hp⟩, rfl⟩
  have hown := Cl.blade_own hn h0 h6 hP hp x hb
  have hR : Red n (subL p sq n x.l) := by unfold subL; exact kernL_red hP _ _
  have hT : Tab p n (subL p sq n x.l) := by unfold subL; exact kernL_tab (by omega) _ _
  have hW : ownL p sq n x.l = wedgesL p sq n (subL p sq n x.l) := by unfold ownL blaL; rw [basisL_of_red hP hR hT]
  rw [hW]
  obtain ⟨B, hB⟩ : ∃ B, B = subL p sq n x.l := ⟨_, rfl⟩
  rw [← hB] at hown hR hT ⊢
  have hlead := wedges_lead (P := p) (by omega) sq hR
  have hWl := wedgesL_len p sq n B.length B rfl
  have hprod := wedges_prod hn hp (by omega) B.length B rfl fun v hv => (hT v hv).2
  obtain ⟨c, hc⟩ : ∃ c, c = x.co (maskTo B B.length) := ⟨_, rfl⟩
  rw [← hc] at hown
  obtain ⟨k, hk⟩ : ∃ k, k = leadL (wedgesL p sq n B) := ⟨_, rfl⟩
  have hne := leadL_at (wedgesL p sq n B) (by omega)
  rw [← hk] at hlead hne
  have hWk : 0 ≤ (wedgesL p sq n B).getD k 0 ∧ (wedgesL p sq n B).getD k 0 < p := (wedgesL_nums (by omega) sq n B).getD hp k
  have hfac : facL p x.l (wedgesL p sq n B) = c := by
    unfold facL
    rw [← hk]
    have e1 : x.l.getD k 0 = c * (wedgesL p sq n B).getD k 0 % p := by
      conv => lhs; rw [hown]
      rw [Cl.sm_getD _ _ (by rw [zs_len]; exact hlead), hprod]; rfl
    have hinv := inv_one hP hWk hne
    obtain ⟨y, hy⟩ : ∃ y, y = (wedgesL p sq n B).getD k 0 := ⟨_, rfl⟩
    rw [← hy] at e1 hinv ⊢
    rw [e1]
    have hcs : c % p = c := by rw [hc, Cl.co_mod]
    calc c * y % p * invF p y % p = c * y * invF p y % p := cg_mul (cg_self _ _) rfl
      _ = c * (y * invF p y) % p := by rw [Int.mul_assoc]
      _ = c * 1 % p := cg_mul rfl (hinv.trans (by rfl))
      _ = c := by rw [Int.mul_one, hcs]
  rw [hfac]
  refine ⟨?_, by rw [hc]; exact x.co_small _⟩
  conv => lhs; rw [hown]
  rw [Cl.sm_l, hprod]
theorem Cl.squeeze (hp : 0 < p) (hP : isP p = true) (v : List Int) : ∀ L : List (List Int), (Cl.vec hp v : Cl p (zs n)) * Cl.prod hp L * Cl.vec hp v = Cl.zero hp
  | [] => by
    show (Cl.vec hp v : Cl p (zs n)) * Cl.one hp * Cl.vec hp v = _
    rw [Cl.mul_one, Cl.zz hp hP]
  | u :: L => by
    rw [Cl.prod_cons, ← Cl.mul_assoc, Cl.za, Cl.sm_mul, Cl.sm_mul, Cl.mul_assoc (Cl.vec hp u), Cl.mul_assoc (Cl.vec hp u), Cl.squeeze hp hP v L, Cl.mul_zero, Cl.sm_zero]
theorem Cl.prod_in (hp : 0 < p) (hP : isP p = true) : ∀ (L : List (List Int)) (v : List Int), v ∈ L → (Cl.prod hp L : Cl p (zs n)) * Cl.vec hp v = Cl.zero hp
  | [], v, h => by cases h
  | u :: L, v, h => by
    rw [Cl.prod_cons]
    rcases List.mem_cons.1 h with rfl | h
    · exact Cl.squeeze hp hP v L
    · rw [Cl.mul_assoc, Cl.prod_in hp hP L v h, Cl.mul_zero]
theorem Cl.prod_set (hp : 0 < p) {sq : List Int} (L : List (List Int)) {i : Nat} (hi : i < L.length) (v : List Int) : (Cl.prod hp (L.set i v) : Cl p sq) = Cl.prod hp (L.take i) * (Cl.vec hp v * Cl.prod hp (L.drop (i + 1))) := by
  rw [List.set_eq_take_append_cons_drop, if_pos hi, Cl.prod_append, Cl.prod_cons]
theorem set_self (L : List (List Int)) {i : Nat} (hi : i < L.length) : L.set i (L.getD i []) = L := by
  refine list_ext_getD [] (by rw [List.length_set]) fun j _ => ?_
  rw [getD_set]
  by_cases h : i = j
  · subst h; rw [if_pos ⟨rfl, hi⟩]
  · rw [if_neg fun e => h e.1]
theorem Cl.prod_split (hp : 0 < p) {sq : List Int} (L : List (List Int)) {i : Nat} (hi : i < L.length) : (Cl.prod hp L : Cl p sq) = Cl.prod hp (L.take i) * (Cl.vec hp (L.getD i []) * Cl.prod hp (L.drop (i + 1))) := by
  rw [← Cl.prod_set hp L hi, set_self L hi]
theorem Cl.prod_rep' (hp : 0 < p) (hP : isP p = true) (L : List (List Int)) {i j : Nat} (hij : i < j) (hj : j < L.length) (h : L.getD i [] = L.getD j []) : (Cl.prod hp L : Cl p (zs n)) = Cl.zero hp := by
  have hm : L.getD j [] ∈ L.take j := by
    rw [← h, ← take_getD [] L hij]
    exact getD_mem [] (by rw [List.length_take]; omega)
  rw [Cl.prod_split hp L hj, ← Cl.mul_assoc, Cl.prod_in hp hP _ _ hm, Cl.zero_mul]
theorem Cl.prod_rep (hp : 0 < p) (hP : isP p = true) (L : List (List Int)) {i j : Nat} (hij : i ≠ j) (hi : i < L.length) (hj : j < L.length) (h : L.getD i [] = L.getD j []) : (Cl.prod hp L : Cl p (zs n)) = Cl.zero hp := by
  rcases Nat.lt_or_gt_of_ne hij with h1 | h1
  · exact Cl.prod_rep' hp hP L h1 hj h
  · exact Cl.prod_rep' hp hP L h1 hi h.symm
theorem Cl.set_plus (hp : 0 < p) {sq : List Int} (L : List (List Int)) {j : Nat} (hj : j < L.length) {a : List Int} (b : List Int) (ha : a.length = sq.length) (k : Int) :
    (Cl.prod hp (L.set j (plusL p a b k)) : Cl p sq) = Cl.prod hp (L.set j a) + k * Cl.prod hp (L.set j b) := by
  rw [Cl.prod_set hp L hj, Cl.prod_set hp L hj, Cl.prod_set hp L hj, Cl.vec_plus hp ha, Cl.add_mul, Cl.mul_add, Cl.sm_mul, Cl.mul_sm]
theorem Cl.set_scale (hp : 0 < p) {sq : List Int} (L : List (List Int)) {j : Nat} (hj : j < L.length) {a : List Int} (ha : a.length = sq.length) (k : Int) :
    (Cl.prod hp (L.set j (scaleL p a k)) : Cl p sq) = k * Cl.prod hp (L.set j a) := by
  rw [Cl.prod_set hp L hj, Cl.prod_set hp L hj, Cl.vec_scale hp ha, Cl.sm_mul, Cl.mul_sm]
/-- A multiple of another row. -/
theorem Cl.prod_plus (hp : 0 < p) (hP : isP p = true) {L : List (List Int)} (hT : Tab p n L) {j d : Nat} (hj : j < L.length) (hd : d < L.length) (hjd : j ≠ d) (k : Int) :
    (Cl.prod hp (L.set j (plusL p (L.getD j []) (L.getD d []) k)) : Cl p (zs n)) = Cl.prod hp L := by
  rw [Cl.set_plus hp L hj _ ((hT.row hj).1.trans (zs_len n).symm), set_self L hj, Cl.prod_rep hp hP (L.set j (L.getD d [])) hjd (by rw [List.length_set]; exact hj) (by rw [List.length_set]; exact hd) (by
    rw [getD_set, if_pos ⟨rfl, hj⟩, getD_set, if_neg fun e => hjd e.1]), Cl.sm_zero, Cl.add_zero]
/-- Two rows exchanged. -/
theorem Cl.prod_swap (hp : 0 < p) (hP : isP p = true) {L : List (List Int)} (hT : Tab p n L) {i j : Nat} (hi : i < L.length) (hj : j < L.length) (hij : i ≠ j) :
    (Cl.prod hp (swapL L i j) : Cl p (zs n)) = (-1 : Int) * Cl.prod hp L := by
  obtain ⟨a, ha⟩ : ∃ a, a = L.getD i [] := ⟨_, rfl⟩
  obtain ⟨b, hb⟩ : ∃ b, b = L.getD j [] := ⟨_, rfl⟩
  have la : a.length = (zs n).length := by rw [ha, (hT.row hi).1, zs_len]
  obtain ⟨s, hs⟩ : ∃ s, s = plusL p a b 1 := ⟨_, rfl⟩
  have rep : ∀ v : List Int, (Cl.prod hp ((L.set i v).set j v) : Cl p (zs n)) = Cl.zero hp := fun v =>
    Cl.prod_rep hp hP _ hij (by rw [List.length_set, List.length_set]; exact hi) (by rw [List.length_set, List.length_set]; exact hj) (by
      rw [getD_set, if_neg fun e => hij e.1.symm, getD_set, if_pos ⟨rfl, hi⟩, getD_set, if_pos ⟨rfl, by rw [List.length_set]; exact hj⟩])
  have comm : ∀ u v : List Int, (L.set i u).set j v = (L.set j v).set i u := fun u v => List.set_comm u v hij
  have e1 := rep s
  have l1 : j < (L.set i s).length := by rw [List.length_set]; exact hj
  have l2 : ∀ v, i < (L.set j v).length := fun v => by rw [List.length_set]; exact hi
  have e2 : (Cl.prod hp ((L.set i s).set j s) : Cl p (zs n)) = Cl.prod hp ((L.set i s).set j a) + (1 : Int) * Cl.prod hp ((L.set i s).set j b) := by
    have h9 := Cl.set_plus hp (L.set i s) l1 b la 1
    rw [← hs] at h9
    exact h9
  have e3 : ∀ v, (Cl.prod hp ((L.set i s).set j v) : Cl p (zs n)) = Cl.prod hp ((L.set i a).set j v) + (1 : Int) * Cl.prod hp ((L.set i b).set j v) := fun v => by
    rw [comm s v, hs, Cl.set_plus hp _ (l2 v) b la 1, ← comm a v, ← comm b v]
  rw [e2, e3 a, e3 b, rep a, rep b, Cl.zero_addz, Cl.one_sm, Cl.one_sm, Cl.one_sm, Cl.add_zero] at e1
  have e4 : (L.set i a).set j b = L := by rw [ha, set_self L hi, hb, set_self L hj]
  have e5 : swapL L i j = (L.set i b).set j a := by unfold swapL; rw [← ha, ← hb]
  rw [e4] at e1
  rw [e5]
  have h := Cl.add_back (Cl.prod hp ((L.set i b).set j a) : Cl p (zs n)) (Cl.prod hp L) 1
  rw [Cl.one_sm, e1, Cl.zero_addz] at h
  exact h.symm
theorem Cl.prod_clear (hp : 0 < p) (hP : isP p = true) {m : List (List Int)} (hT : Tab p n m) {d k : Nat} (hd : d < m.length) : ∀ j, j ≤ m.length → (Cl.prod hp (clearTo p m d k j) : Cl p (zs n)) = Cl.prod hp m := by
  intro j
  induction j with
  | zero => intro _; rw [clearTo_zero]
  | succ j ih =>
    intro hj
    by_cases h : j = d
    · subst h; rw [clearTo_skip]; exact ih (by omega)
    · rw [clearTo_succ p m d k j (by omega) h]
      have e1 : m.getD j [] = (clearTo p m d k j).getD j [] := by rw [clearTo_getD (by omega), if_neg (by omega)]
      have e2 : m.getD d [] = (clearTo p m d k j).getD d [] := by rw [clearTo_getD hd, if_neg (by omega)]
      rw [e1, e2, Cl.prod_plus hp hP (clearTo_tab hp hT d k j) (by rw [clearTo_len]; omega) (by rw [clearTo_len]; exact hd) h]
      exact ih (by omega)
/-- The sign of an exchange. -/
def swSg (i j : Nat) : Int := if i = j then 1 else -1
theorem swapL_self (L : List (List Int)) {i : Nat} (hi : i < L.length) : swapL L i i = L := by
  unfold swapL; rw [set_self L hi, set_self L hi]
theorem Cl.prod_swap' (hp : 0 < p) (hP : isP p = true) {L : List (List Int)} (hT : Tab p n L) {i j : Nat} (hi : i < L.length) (hj : j < L.length) :
    (Cl.prod hp (swapL L i j) : Cl p (zs n)) = swSg i j * Cl.prod hp L := by
  unfold swSg
  by_cases h : i = j
  · subst h; rw [if_pos rfl, swapL_self L hi, Cl.one_sm]
  · rw [if_neg h, Cl.prod_swap hp hP hT hi hj h]
theorem Cl.prod_scaled (hp : 0 < p) (hP : isP p = true) {m : List (List Int)} (hT : Tab p n m) {k d : Nat} (hd : d < m.length) (hv : pivOf m k d < m.length) :
    (Cl.prod hp (scaledAt p m k d) : Cl p (zs n)) = (invF p (ent m (pivOf m k d) k) * swSg d (pivOf m k d)) * Cl.prod hp m := by
  unfold scaledAt
  have hl : d < (swapL m d (pivOf m k d)).length := by rw [swapL_len]; exact hd
  rw [Cl.set_scale hp _ hl ((hT.row hv).1.trans (zs_len n).symm)]
  have e : (swapL m d (pivOf m k d)).set d (m.getD (pivOf m k d) []) = swapL m d (pivOf m k d) := by
    have : (swapL m d (pivOf m k d)).getD d [] = m.getD (pivOf m k d) [] := by
      unfold swapL
      rw [getD_set]
      by_cases h : pivOf m k d = d
      · rw [if_pos ⟨h, by rw [List.length_set]; exact hv⟩, h]
      · rw [if_neg fun e => h e.1, getD_set, if_pos ⟨rfl, hd⟩]
    rw [← this, set_self _ hl]
  rw [e, Cl.prod_swap' hp hP hT hd hv, Cl.sm_sm]
theorem unit_inv (hP : isP p = true) {a : Int} (h0 : 0 ≤ a ∧ a < p) (ha : a ≠ 0) : invF p a % p ≠ 0 := fun h => by
  have h1 := inv_one hP h0 ha
  have h3 := (isP_ge hP).1
  rw [Int.mul_emod, h, Int.mul_zero, Int.zero_emod, Int.emod_eq_of_lt (by omega) (by omega)] at h1
  exact absurd h1 (by decide)
theorem swSg_ne (hP : isP p = true) (i j : Nat) : swSg i j % p ≠ 0 := by
  have h3 := isP_ge hP
  unfold swSg
  split
  · rw [Int.emod_eq_of_lt (by omega) (by omega)]; decide
  · intro h
    have h1 : (-1 : Int) % p = p - 1 := by
      rw [← Int.add_emod_right (a := -1), show (-1 : Int) + p = p - 1 by omega, Int.emod_eq_of_lt (by omega) (by omega)]
    omega
theorem Cl.prod_step (hp : 0 < p) (hP : isP p = true) {s : List (List Int) × Nat} {k : Nat} (hT : Tab p n s.1) (hd : s.2 ≤ s.1.length) :
    ∃ c : Int, c % p ≠ 0 ∧ (Cl.prod hp (stepB p k s).1 : Cl p (zs n)) = c * Cl.prod hp s.1 := by
  have h3 := isP_ge hP
  unfold stepB
  by_cases h : pivOf s.1 k s.2 = s.1.length
  · rw [if_pos h]
    exact ⟨1, by rw [Int.emod_eq_of_lt (by omega) (by omega)]; decide, (Cl.one_sm _).symm⟩
  · rw [if_neg h]
    obtain ⟨hb1, hb2⟩ := pivOf_bound s.1 k s.2 hd
    have hx : ent s.1 (pivOf s.1 k s.2) k ≠ 0 := piv_at s.1 k _ _ (by unfold pivOf at h hb2; omega)
    have hl : (scaledAt p s.1 k s.2).length = s.1.length := scaledAt_len _ _ _ _
    have hst := scaledAt_tab (p := p) (k := k) hp hT (show s.2 < s.1.length by omega) (by omega)
    refine ⟨invF p (ent s.1 (pivOf s.1 k s.2) k) * swSg s.2 (pivOf s.1 k s.2), ?_, ?_⟩
    rotate_left
    · show (Cl.prod hp (clearTo p (scaledAt p s.1 k s.2) s.2 k s.1.length) : Cl p (zs n)) = _
      rw [Cl.prod_clear hp hP hst (by rw [hl]; omega) _ (by rw [hl]; exact Nat.le_refl _), Cl.prod_scaled hp hP hT (by omega) (by omega)]
    · exact mul_ne hP (unit_inv hP (hT.ent hp _ _) hx) (swSg_ne hP _ _)
theorem Cl.prod_basisTo (hp : 0 < p) (hP : isP p = true) {m : List (List Int)} (hT : Tab p n m) : ∀ k, ∃ c : Int, c % p ≠ 0 ∧ (Cl.prod hp (basisTo p m k).1 : Cl p (zs n)) = c * Cl.prod hp m := by
  have h3 := isP_ge hP
  intro k
  induction k with
  | zero => exact ⟨1, by rw [Int.emod_eq_of_lt (by omega) (by omega)]; decide, (Cl.one_sm _).symm⟩
  | succ k ih =>
    obtain ⟨c, hc, e⟩ := ih
    obtain ⟨t1, t2, t3⟩ := basisTo_inv hp m hT k
    obtain ⟨d, hd, e2⟩ := Cl.prod_step hp hP (s := basisTo p m k) (k := k) t1 (by omega)
    refine ⟨d * c, mul_ne hP hd hc, ?_⟩
    show (Cl.prod hp (stepB p k (basisTo p m k)).1 : Cl p (zs n)) = _
    rw [e2, e, Cl.sm_sm]
theorem Cl.sm_inv {sq : List Int} (hP : isP p = true) {c : Int} (hc : c % p ≠ 0) {x y : Cl p sq} (h : x = c * y) : y = invF p (c % p) * x := by
  rw [h, Cl.sm_sm]
  have h1 := inv_mod hP hc
  rw [Int.mul_comm] at h1
  rw [Cl.sm_cg (k := invF p (c % p) * c) (j := 1) (by rw [h1, Int.emod_eq_of_lt] <;> have := isP_ge hP <;> omega), Cl.one_sm]
theorem Cl.vec_none (hp : 0 < p) {sq : List Int} {v : List Int} (h : ∀ q, q < sq.length → v.getD q 0 % p = 0) : (Cl.vec hp v : Cl p sq) = Cl.zero hp := Cl.same fun m hm => by
  rw [Cl.vec_co hp v hm, Cl.zero_co hp hm]
  refine (sumTo_mod p (g := fun _ => 0) fun i hi => ?_).trans (by rw [sumTo_zero fun _ _ => rfl]; rfl)
  split
  · rw [h i hi]; rfl
  · rfl
/-- The product of vectors is 0 or a multiple of that of their reduced basis, which has as many. -/
theorem Cl.prod_basis (hp : 0 < p) (hP : isP p = true) {m : List (List Int)} (hT : Tab p n m) :
    (Cl.prod hp m : Cl p (zs n)) = Cl.zero hp ∨ ((basisL p m).length = m.length ∧ ∃ c : Int, c % p ≠ 0 ∧ (Cl.prod hp m : Cl p (zs n)) = c * Cl.prod hp (basisL p m)) := by
  have h3 := isP_ge hP
  by_cases h0 : 0 < m.length
  · have hl := row0_len hT h0
    obtain ⟨c, hc, e⟩ := Cl.prod_basisTo hp hP hT n
    obtain ⟨t1, t2, t3⟩ := basisTo_inv hp m hT n
    obtain ⟨ec, hE⟩ := basisTo_ech hP m hT n (Nat.le_refl _)
    have ei := Cl.sm_inv hP hc e
    have hinv : invF p (c % p) % p ≠ 0 := unit_inv hP ⟨Int.emod_nonneg _ (by omega), Int.emod_lt_of_pos _ (by omega)⟩ hc
    by_cases hfull : (basisTo p m n).2 = m.length
    · refine Or.inr ⟨?_, _, hinv, ?_⟩
      · rw [(basisL_len hp m hT).1, hl, hfull]
      · have e4 : basisL p m = (basisTo p m n).1 := by unfold basisL; rw [hl, hfull, ← t2, List.take_length]
        rw [e4]; exact ei
    · refine Or.inl ?_
      have hd : (basisTo p m n).2 < (basisTo p m n).1.length := by omega
      rw [ei, Cl.prod_split hp _ hd, Cl.vec_none hp (v := (basisTo p m n).1.getD (basisTo p m n).2 []) (fun q hq => ?_), Cl.zero_mul, Cl.mul_zero, Cl.sm_zero]
      rw [zs_len] at hq
      have := hE.rest _ (Nat.le_refl _) hd q hq
      unfold ent at this
      rw [this]; rfl
  · obtain rfl : m = [] := List.eq_nil_of_length_eq_zero (by omega)
    rw [basisL_nil]
    exact Or.inr ⟨rfl, 1, by rw [Int.emod_eq_of_lt (by omega) (by omega)]; decide, (Cl.one_sm _).symm⟩
/-- A multiple of the product of a reduced basis is a blade, and its subspace has this basis. -/
theorem sub_mult {sq : List Int} (hn : sq.length = n) (h0 : 0 < n) (hP : isP p = true) (hp : 0 < p) (x : Cl p (zs n)) {k : Int} (hk : k % p ≠ 0) : subL p sq n (k * x).l = subL p sq n x.l := by
  have h3 := isP_ge hP
  have key : ∀ y z : Cl p (zs n), ∀ c : Int, y = c * z → InSp p n (subL p sq n z.l) (subL p sq n y.l) := fun y z c e i hi => by
    refine (sub_sp hn h0 hp hP y ((subL p sq n z.l).getD i [])).2 ?_
    rw [e, Cl.mul_sm, (sub_sp hn h0 hp hP z _).1 (Sp.row hi), Cl.sm_zero]
  have hR : ∀ xs, Red n (subL p sq n xs) := fun xs => by unfold subL; exact kernL_red hP _ _
  have hT : ∀ xs, Tab p n (subL p sq n xs) := fun xs => subL_tab (by omega) sq n xs
  exact (hR _).unique (by omega) (hR _) (hT _) (hT _) (key _ _ _ (Cl.sm_inv hP hk rfl)) (key _ _ _ rfl)
theorem grades_mult (hP : isP p = true) {sq : List Int} (x : Cl p sq) {k : Int} (hk : k % p ≠ 0) : gradesL (k * x).l = gradesL x.l := by
  unfold gradesL
  have hz : ∀ m, m < pw sq.length → ((k * x).l.getD m 0 ≠ 0 ↔ x.l.getD m 0 ≠ 0) := fun m hm => by
    rw [Cl.sm_getD k x hm]
    constructor
    · intro h e
      refine h ?_
      show k * x.l.getD m 0 % p = 0
      rw [e, Int.mul_zero]; rfl
    · intro h
      exact mul_ne hP hk (by show x.co m % p ≠ 0; rw [Cl.co_mod]; exact h)
  have hh : ∀ g, hasG (k * x).l g = hasG x.l g := fun g => by
    rw [Bool.eq_iff_iff, hasG_iff, hasG_iff, (k * x).len, x.len]
    constructor
    · rintro ⟨i, h1, h2, h4⟩; exact ⟨i, h1, (hz i h1).1 h2, h4⟩
    · rintro ⟨i, h1, h2, h4⟩; exact ⟨i, h1, (hz i h1).2 h2, h4⟩
  rw [funext hh]
theorem bl_mult {sq : List Int} (hn : sq.length = n) (h0 : 0 < n) (hP : isP p = true) (hp : 0 < p) (x : Cl p (zs n)) {k : Int} (hk : k % p ≠ 0) : isBl p sq n (k * x).l = isBl p sq n x.l := by
  unfold isBl
  rw [grades_mult hP x hk, sub_mult hn h0 hP hp x hk]
/-- Outer products of vectors are 0 or blades. -/
theorem wedges_blade {sq : List Int} (hn : sq.length = n) (h0 : 0 < n) (h6 : n ≤ 6) (hP : isP p = true) {L : List (List Int)} (hT : Tab p n L) : isBl p sq n (wedgesL p sq n L) = !(decide (∀ y ∈ wedgesL p sq n L, y = 0)) := by
  have h3 := isP_ge hP
  have hp : 0 < p := by omega
  have hpr := wedges_prod hn hp (by omega) L.length L rfl fun v hv => (hT v hv).2
  have hB := basisL_tab hp L hT
  have hR := basisL_red hP L hT
  have hpb := wedges_prod hn hp (by omega) (basisL p L).length (basisL p L) rfl fun v hv => (hB v hv).2
  rcases Cl.prod_basis hp hP hT with h | ⟨_, c, hc, h⟩
  · have hz : ∀ y ∈ wedgesL p sq n L, y = 0 := by rw [hpr, h]; exact Cl.zero_all hp
    rw [decide_eq_true hz]
    have hg : gradesL (wedgesL p sq n L) = [] := by
      refine List.eq_nil_iff_forall_not_mem.2 fun a ha => ?_
      obtain ⟨i, hi, hne, -⟩ := (gradesL_mem _ (by rw [wedgesL_len p sq n _ _ rfl]; exact pw_le h6) a).1 ha
      exact hne (hz _ (getD_mem 0 hi))
    unfold isBl
    rw [hg]; rfl
  · have hb := blade_wedges hn h0 h6 hP hR hB
    rw [hpb] at hb
    rw [hpr, h, bl_mult hn h0 hP hp _ hc, hb]
    have hne : ¬ ∀ y ∈ (c * Cl.prod hp (basisL p L) : Cl p (zs n)).l, y = 0 := fun hz => by
      have h1 := Cl.prod_at hp (by omega) hR hB
      have hM := maskTo_lt hR _ (Nat.le_refl _)
      have h2 : (c * Cl.prod hp (basisL p L) : Cl p (zs n)).l.getD (maskTo (basisL p L) (basisL p L).length) 0 = 0 := hz _ (getD_mem 0 (by rw [Cl.len, zs_len]; exact hM))
      rw [Cl.sm_getD _ _ (by rw [zs_len]; exact hM), h1, Int.mul_one] at h2
      exact hc h2
    rw [decide_eq_false hne]; rfl
end
end Go.Proofs.YtggigolkncckoaaGreat
namespace Go.Proofs.YtggigolkncckoaaGreat
open Go.RowKit
set_option maxHeartbeats 1600000 in
theorem isTable_ok (p : Int) (A : Option Addr) (n c : Nat) (M : List (List Int)) (m : Nat) (w : World) (hp0 : 0 < p) (hp1 : p ≤ 13) (hn : n ≤ 16) (hm1 : 1 ≤ m) (hm : m ≤ 16) (ha : RdII w A n M) (hT : Tab p m M) :
    Calls Tryz.prog 222 #[.int .i64 p, .slice A n c] w fun e w' => e = .returned (.bool true) ∧ w = w' := by
  have HT := Lib.hid hT
  have t1 : decide ((16 : Int) < (n : Int)) = false := by simp; omega
  have t2 : decide ((m : Int) < 1) = false := by simp; omega
  have t3 : decide ((16 : Int) < (m : Int)) = false := by simp; omega
  have t4 : ((m : Int) != (m : Int)) = false := by simp
  clear hT
  go_enter Tryz.func222, Tryz.ntmps222
  go_wp2
  go_loopw [12] (fun i wr => ∃ k : Nat, k ≤ n ∧ i = .int .i64 k ∧ wr = w) (fun i _ => n - (intOf i).toNat)
  case atStart => exact ⟨0, by omega, rfl, rfl⟩
  case round =>
    obtain ⟨k, hk, rfl, rfl⟩ := hrel
    by_cases hlt : k < n
    · obtain ⟨g, o, rfl, hxk, A1, c1, hc1, hr1, -⟩ := ha.at_ hlt
      obtain ⟨g0, o0, e0, hx0, A0, c0, hc0, hr0, -⟩ := ha.at_ (show 0 < n by omega)
      cases e0
      obtain ⟨l1, n1⟩ := HT.out M[k] (List.getElem_mem hxk)
      obtain ⟨l0, -⟩ := HT.out M[0] (List.getElem_mem hx0)
      rw [l1] at hc1 hr1
      rw [l0] at hc0
      rw [Nat.add_zero] at hc0
      have his := is_b p A1 m c1 M[k] wr (by omega) (by omega) (by omega) hr1 (List.all_eq_true.2 fun x hx => by have := n1 x hx; simp [inR]; omega)
      clear hr1 hr0 l1 n1 l0 ha
      go_wp2_with fail
      refine his.mono ?_
      rintro e w1 ⟨rfl, rfl⟩
      go_wp2
      go_roundw
      case rel => exact ⟨k + 1, by omega, by go_num, by first | rfl | trivial⟩
      case measure => simp [intOf]; omega
    · go_wp2
      go_ret
      exact ⟨rfl, rfl⟩
/-- A block of matrices. -/
def RdM (w : World) (g n : Nat) (p : Int) : Prop := ∀ k, k < n → ∃ (A : Option Addr) (r c m : Nat) (M : List (List Int)), w.cell? ⟨g, k, none⟩ = some (.slice A r c) ∧ RdII w A r M ∧ Tab p m M ∧ 0 < r ∧ r ≤ 16 ∧ 1 ≤ m ∧ m ≤ 16
theorem RdM.below {w w' : World} {g n : Nat} {p : Int} (h : RdM w g n p) (hb : Below w.heap.size w w') : RdM w' g n p := fun k hk => by
  obtain ⟨A, r, c, m, M, h1, h2, h3⟩ := h k hk
  exact ⟨A, r, c, m, M, (hb.cell (World.block_lt_of_cell? _ _ h1)).trans h1, h2.below hb, h3⟩
end Go.Proofs.YtggigolkncckoaaGreat
namespace Go.Proofs.YtggigolkncckoaaGreat
open Go.RowKit
def MkO (w0 w : World) (A : Option Addr) (n c : Nat) (xss : List (List Int)) : Prop := ∃ rows, Mk w0 w 24 A n c rows ∧ rows.length = xss.length ∧
  ∀ (k : Nat) (h : k < xss.length), ∃ A' c', rows[k]? = some (.slice A' xss[k].length c') ∧ Own w 0 2 A' xss[k].length c' (ints xss[k])
theorem MkII.o {w0 w : World} {A : Option Addr} {n c : Nat} {xss : List (List Int)} (h : MkII w0 w A n c xss) : MkO w0 w A n c xss := by
  obtain ⟨rows, hm, hn⟩ := h
  exact ⟨rows, hm, hn.len, fun k hk => by obtain ⟨A', c', e, ho⟩ := hn.row k hk; exact ⟨A', c', e, ho.base (Nat.zero_le _)⟩⟩
theorem MkO.rd {w0 w : World} {A : Option Addr} {n c : Nat} {xss : List (List Int)} (h : MkO w0 w A n c xss) : RdII w A n xss := by
  obtain ⟨rows, hm, hl, hk⟩ := h
  exact ⟨rows, hm.rd, hl, fun k hlt => by obtain ⟨A', c', e, ho⟩ := hk k hlt; exact ⟨A', c', e, ho.rd, ho.cap⟩⟩
theorem MkO.b {w0 w : World} {A : Option Addr} {n c : Nat} {xss : List (List Int)} (h : MkO w0 w A n c xss) : Below w0.heap.size w0 w := by
  obtain ⟨_, hm, _⟩ := h; exact hm.1
theorem MkO.below {w0 w w' : World} {A : Option Addr} {n c : Nat} {xss : List (List Int)} (h : MkO w0 w A n c xss) (hb : Below w.heap.size w w') : MkO w0 w' A n c xss := by
  obtain ⟨rows, hm, hl, hk⟩ := h
  exact ⟨rows, hm.below hb, hl, fun k hlt => by obtain ⟨A', c', e, ho⟩ := hk k hlt; exact ⟨A', c', e, ho.below hb⟩⟩
theorem MkO.after {w0 w1 w : World} {A : Option Addr} {n c : Nat} {xss : List (List Int)} (h : MkO w1 w A n c xss) (hb : Below w0.heap.size w0 w1) : MkO w0 w A n c xss := by
  obtain ⟨rows, hm, hl, hk⟩ := h
  exact ⟨rows, hm.after hb, hl, hk⟩
theorem MkO.ne_blk {w0 w : World} {A : Option Addr} {n c g : Nat} {xss : List (List Int)} {t : TypeId} {cs : Array Value} (h : MkO w0 w A n c xss) (hb : Blk w g t cs) (hE : 24 ≠ t) : some g ≠ (Value.slice A n c).ownBlock := by
  obtain ⟨rows, hm, _⟩ := h
  exact hm.2.ne_blk hb hE
/-- A row that lies there is appended. -/
theorem wpList_appRowO {ops : Array Oper} {rest : List Oper} {o : Oper} {a : Act} {Q : Exit → Act → World → Prop} (w0 w1 : World)
    (hgd : o.guard = none) (s x : Operand) (ho : o.op = .call { callee := .builtin .append, args := #[s, x], argTypes := #[44, 44] })
    (A : Option Addr) (n c : Nat) (xss : List (List Int)) (A1 : Option Addr) (m c1 : Nat) (xs : List Int) (hM : MkO w0 w1 A n c xss) (hr : Own w1 0 2 A1 m c1 (ints xs)) (hn : n ≤ 1099511627776)
    (hs : a.eval s = .slice A n c) (hx : a.eval x = .slice (some ⟨w1.heap.size, 0, none⟩) 1 1)
    (h : ∀ A' c' w', MkO w0 w' A' (n + 1) c' (xss ++ [xs]) → w1.grownBy w' (Value.slice A n c).ownBlock → (∃ g, A' = some ⟨g, 0, none⟩ ∧ ((Value.slice A n c).ownBlock = some g ∨ w1.heap.size ≤ g)) → wpList Tryz.prog ops Q rest (a.put o.dst (.slice A' (n + 1) c')) w') :
    wpList Tryz.prog ops Q (o :: rest) a (w1.alloc (.cells #[.slice A1 m c1] 24)) := by
  obtain ⟨rows, hm, hl, hrow⟩ := hM
  have hml : xs.length = m := by have := hr.len; rwa [ints_length] at this
  subst hml
  refine wpList_app1 w0 w1 44 24 (.slice none 0 0) 24 Tryz.underlying44 info_s rfl (by omega) hgd s x ho A n c rows (.slice A1 xs.length c1) hm hn rfl hs hx ?_
  intro A' c' w' hM' hg hat
  refine h A' c' w' ⟨_, hM', by simp [hl], fun k hk => ?_⟩ hg hat
  by_cases hlt : k < xss.length
  · obtain ⟨A2, c2, e, ho2⟩ := hrow k hlt
    simp only [List.getElem_append_left hlt]
    exact ⟨A2, c2, by rw [List.getElem?_append_left (by omega)]; exact e, ho2.grown hg (ho2.ne hm.2 (by decide))⟩
  · have hk' : k = xss.length := by simp at hk; omega
    subst hk'
    simp only [List.getElem_append_right (Nat.le_refl _), Nat.sub_self, List.getElem_cons_zero]
    exact ⟨A1, c1, by rw [List.getElem?_append_right (by omega), hl, Nat.sub_self]; rfl, hr.grown hg (hr.ne hm.2 (by decide))⟩
end Go.Proofs.YtggigolkncckoaaGreat
namespace Go.Proofs.YtggigolkncckoaaGreat
/-- Rows none of which is a sum of multiples of others. -/
def Ind (p : Int) (n : Nat) (L : List (List Int)) : Prop := ∀ c : Nat → Int, (∀ q, q < n → (sumTo L.length fun i => c i * ent L i q) % p = 0) → ∀ i, i < L.length → c i % p = 0
section
variable {p : Int} {n : Nat}
theorem Red.ind {B : List (List Int)} (hR : Red n B) : Ind p n B := fun c hc i hi => by
  have h := hc _ (hR.lt i hi)
  rwa [sumTo_one (f := fun j => c j * ent B j (ld B i)) i hi (fun j hj hne => by rw [hR.zero i j hi hj hne, Int.mul_zero]), hR.one i hi, Int.mul_one] at h
/-- Leads that fill the first places. -/
theorem Red.fills {B : List (List Int)} (hR : Red n B) {N : Nat} (h : ∀ f, f < N → isLd B f = true) : N ≤ B.length := by
  have key : ∀ f, f < N → ∃ i, i < B.length ∧ ld B i = f ∧ f ≤ i := by
    intro f
    induction f with
    | zero => intro h0; obtain ⟨i, hi, e⟩ := isLd_iff.1 (h 0 h0); exact ⟨i, hi, e, Nat.zero_le _⟩
    | succ f ih =>
      intro hf
      obtain ⟨i, hi, e, hle⟩ := ih (by omega)
      obtain ⟨j, hj, e2⟩ := isLd_iff.1 (h (f + 1) hf)
      refine ⟨j, hj, e2, ?_⟩
      rcases Nat.lt_trichotomy i j with hl | hl | hl
      · omega
      · subst hl; omega
      · have := hR.mono j i hl hi; omega
  rcases Nat.eq_zero_or_pos N with rfl | hN
  · exact Nat.zero_le _
  · obtain ⟨i, hi, -, hle⟩ := key (N - 1) (by omega)
    omega
/-- Independent vectors that others make are no more than these. -/
theorem Ind.le (hP : isP p = true) {L M : List (List Int)} (hI : Ind p n L) (hS : InSp p n L M) : L.length ≤ M.length := by
  have hp : 2 ≤ p := by have := isP_ge hP; omega
  refine Classical.byContradiction fun hlt => ?_
  have hch : ∀ i, ∃ a : Nat → Int, i < L.length → ∀ q, q < n → ent L i q % p = (sumTo M.length fun j => a j * ent M j q) % p := fun i => by
    by_cases hi : i < L.length
    · obtain ⟨a, ha⟩ := hS i hi; exact ⟨a, fun _ => ha⟩
    · exact ⟨fun _ => 0, fun h => absurd h hi⟩
  obtain ⟨a, ha⟩ := Classical.axiomOfChoice hch
  obtain ⟨A, hA⟩ : ∃ A : List (List Int), A = tab M.length fun j => tab L.length fun i => a i j % p := ⟨_, rfl⟩
  have hAl : A.length = M.length := by rw [hA, tab_len]
  have hAT : Tab p L.length A := by
    rw [hA]
    exact Tab.tab fun j _ => ⟨tab_len _ _, NumsL.tab fun i _ => ⟨Int.emod_nonneg _ (by omega), Int.emod_lt_of_pos _ (by omega)⟩⟩
  have hAe : ∀ j i, j < M.length → i < L.length → ent A j i = a i j % p := fun j i hj hi => by
    unfold ent; rw [hA, tab_getD hj, tab_getD hi]
  have hR := basisL_red hP A hAT
  have hRl := (basisL_len (p := p) (by omega) A hAT).2
  have hf : ∃ f, f < L.length ∧ isLd (basisL p A) f = false := Classical.byContradiction fun hno => by
    have := hR.fills (N := L.length) fun f hf => by
      cases e : isLd (basisL p A) f
      · exact absurd ⟨f, hf, e⟩ hno
      · rfl
    omega
  obtain ⟨f, hf, hfl⟩ := hf
  have ho := (freeRow_orth (p := p) hR hf hfl).of_in (basisL_in hP A hAT).2
  obtain ⟨c, hc⟩ : ∃ c : Nat → Int, c = fun q => (freeRow p (basisL p A) L.length f).getD q 0 := ⟨_, rfl⟩
  have h0 := hI c (fun q hq => by
    have e1 : (sumTo L.length fun i => c i * ent L i q) % p = (sumTo L.length fun i => c i * sumTo M.length fun j => a i j * ent M j q) % p := sumTo_mod p fun i hi => cg_mul rfl (ha i hi q hq)
    rw [e1, sumTo_congr (g := fun i => sumTo M.length fun j => c i * (a i j * ent M j q)) fun i _ => (sumTo_mul _ _ _).symm, sumTo_comm]
    refine (sumTo_mod p (g := fun _ => 0) fun j hj => ?_).trans (by rw [sumTo_zero fun _ _ => rfl]; rfl)
    have h1 := ho j (by omega)
    have e2 : (sumTo L.length fun i => c i * (a i j * ent M j q)) = ent M j q * sumTo L.length fun i => a i j * c i := by
      rw [← sumTo_mul]; exact sumTo_congr fun i _ => by rw [← Int.mul_assoc, Int.mul_comm (ent M j q), Int.mul_comm (c i)]
    rw [e2]
    have e3 : (sumTo L.length fun i => a i j * c i) % p = (sumTo L.length fun q => ent A j q * (freeRow p (basisL p A) L.length f).getD q 0) % p := sumTo_mod p fun i hi => by
      rw [hAe j i hj hi, hc]; exact cg_mul (cg_self _ _).symm rfl
    exact (cg_mul rfl (e3.trans h1)).trans (by rw [Int.mul_zero])) f hf
  rw [hc] at h0
  simp only [freeRow_own (p := p) (B := basisL p A) hf] at h0
  rw [Int.emod_eq_of_lt (by omega) (by omega)] at h0
  exact absurd h0 (by decide)
theorem Ind.same (hP : isP p = true) {L M : List (List Int)} (hL : Ind p n L) (hM : Ind p n M) (h1 : InSp p n L M) (h2 : InSp p n M L) : L.length = M.length :=
  Nat.le_antisymm (hL.le hP h1) (hM.le hP h2)
/-- The reduced basis of independent vectors has as many. -/
theorem Ind.basis (hP : isP p = true) {L : List (List Int)} (hT : Tab p n L) (hL : Ind p n L) : (basisL p L).length = L.length :=
  (basisL_red hP L hT).ind.same hP hL (basisL_in hP L hT).1 (basisL_in hP L hT).2
end
end Go.Proofs.YtggigolkncckoaaGreat
namespace Go.Proofs.YtggigolkncckoaaGreat
open Go.RowKit
theorem Ind.snoc {p : Int} {n : Nat} (hP : isP p = true) {B : List (List Int)} {v : List Int} (hI : Ind p n B) (h : ¬ Sp p n B (fun q => v.getD q 0)) : Ind p n (B ++ [v]) := fun c hc => by
  have hsum : ∀ q, q < n → (sumTo B.length (fun i => c i * ent B i q) + c B.length * v.getD q 0) % p = 0 := fun q hq => by
    have h1 := hc q hq
    rw [List.length_append, List.length_singleton, sumTo_succ] at h1
    refine Eq.trans ?_ h1
    congr 1
    congr 1
    · refine sumTo_congr fun i hi => ?_
      unfold ent; rw [getD_app_left [] _ hi]
    · unfold ent
      have e9 : (B ++ [v]).getD B.length [] = v := by
        rw [List.getD_eq_getElem?_getD, List.getElem?_append_right (Nat.le_refl _)]
        simp
      rw [e9]
  have h0 : c B.length % p = 0 := Classical.byContradiction fun hne => h (by
    refine ⟨fun i => -(invF p (c B.length % p)) * c i, fun q hq => ?_⟩
    have hi := inv_mod hP hne
    obtain ⟨t, ht⟩ := cg_wit.1 ((hsum q hq).trans (Int.zero_emod p).symm)
    have h3 := isP_ge hP
    obtain ⟨s, hs⟩ := cg_wit.1 (hi.trans (Int.emod_eq_of_lt (a := 1) (by omega) (by omega)).symm)
    have e1 : (sumTo B.length fun i => -(invF p (c B.length % p)) * c i * ent B i q) = -(invF p (c B.length % p)) * sumTo B.length (fun i => c i * ent B i q) := by
      rw [← sumTo_mul]
      exact sumTo_congr fun i _ => Int.mul_assoc _ _ _
    rw [e1]
    obtain ⟨S, hS⟩ : ∃ S, S = sumTo B.length (fun i => c i * ent B i q) := ⟨_, rfl⟩
    obtain ⟨I, hI⟩ : ∃ I, I = invF p (c B.length % p) := ⟨_, rfl⟩
    obtain ⟨C, hC⟩ : ∃ C, C = c B.length := ⟨_, rfl⟩
    obtain ⟨V, hV⟩ : ∃ V, V = v.getD q 0 := ⟨_, rfl⟩
    rw [← hI, ← hC] at hs
    rw [← hS, ← hC, ← hV] at ht
    show v.getD q 0 % p = _
    rw [← hV, ← hI, ← hS]
    refine cg_wit.2 ⟨I * t - s * V, ?_⟩
    have e2 : S = p * t - C * V := by omega
    rw [e2]
    clear e1 e2 ht hi hsum hc
    grind)
  have h1 : ∀ i, i < B.length → c i % p = 0 := hI c fun q hq => by
    have h2 := hsum q hq
    obtain ⟨t, ht⟩ := cg_wit.1 (h0.trans (Int.zero_emod p).symm)
    rw [ht] at h2
    obtain ⟨S, hS⟩ : ∃ S, S = sumTo B.length (fun i => c i * ent B i q) := ⟨_, rfl⟩
    rw [← hS] at h2 ⊢
    obtain ⟨s, hs⟩ := cg_wit.1 (h2.trans (Int.zero_emod p).symm)
    exact (cg_wit.2 ⟨s - t * v.getD q 0, by grind⟩).trans (Int.zero_emod p)
  intro i hi
  rw [List.length_append, List.length_singleton] at hi
  rcases Nat.lt_or_ge i B.length with h2 | h2
  · exact h1 i h2
  · obtain rfl : i = B.length := by omega
    exact h0
/-- When a list lies in the span of a reduced basis. -/
theorem in_span_iff {p : Int} {n : Nat} (hP : isP p = true) {B : List (List Int)} {v : List Int} (hR : Red n B) (hT : Tab p n B) (hv : v.length = n ∧ NumsL p v) : (basisL p (B ++ [v])).length = (basisL p B).length ↔ Sp p n B fun q => v.getD q 0 := by
  refine ⟨fun h => Classical.byContradiction fun hn => ?_, fun h => span_len hP hT hv h⟩
  have h1 := (Ind.snoc hP (Red.ind (p := p) hR) hn).basis hP (hT.snoc hv)
  rw [h1, basisL_of_red hP hR hT, List.length_append, List.length_singleton] at h
  omega
set_option maxHeartbeats 1600000 in
set_option maxRecDepth 8000 in
theorem spans_any (p : Int) (A : Option Addr) (n c : Nat) (L : List (List Int)) (X : Option Addr) (m cx : Nat) (v : List Int) (w : World) (HP : isP p = true) (hn0 : 0 < n) (hn : n ≤ 16) (hm1 : 1 ≤ m) (hm : m ≤ 16) (ha : RdII w A n L) (hL : Tab p m L) (hx : Own w 0 2 X m cx (ints v)) (hv : NumsL p v) :
    Calls Tryz.prog 224 #[.int .i64 p, .slice A n c, .slice X m cx] w fun e w' => e = .returned (.bool (decide ((basisL p (L ++ [v])).length = (basisL p L).length))) ∧ Below w.heap.size w w' := by
  have hvl : v.length = m := hx.rd.lenI
  have hcl := cloneRows_any p A n c L m w (by omega) (by omega) ha hL
  have hb1 := Lib.hid fun (w' : World) (A' : Option Addr) (c' : Nat) (h : RdII w' A' (n + 1) (L ++ [v])) => basis_any p A' (n + 1) c' (L ++ [v]) m w' HP (by omega) (by omega) h (hL.snoc ⟨hvl, hv⟩)
  have hb2 := Lib.hid fun (w' : World) (h : Below w.heap.size w w') => basis_any p A n c L m w' HP (by omega) (by omega) (ha.below h) hL
  obtain ⟨k1, hk1⟩ : ∃ k, k = (basisL p (L ++ [v])).length := ⟨_, rfl⟩
  obtain ⟨k, hk⟩ : ∃ k, k = (basisL p L).length := ⟨_, rfl⟩
  rw [← hk1, ← hk]
  have HK1 := Lib.hid hk1
  have HK := Lib.hid hk
  clear hk1 hk
  have HX := Lib.hid hx
  clear hvl hv hL ha hx HP
  go_enter Tryz.func224, Tryz.ntmps224
  go_wp2_with fail
  refine hcl.mono ?_
  rintro e w1 ⟨A1, c1, rfl, hM1⟩
  have HM1 := Lib.hid hM1
  clear hcl hM1
  go_wp2_with (at_builtin; (refine wpList_appRowO w w1 rfl _ _ rfl A1 n c1 L X m cx v HM1.out.o (HX.out.below HM1.out.b) (by omega) rfl rfl ?_; intro A2 c2 w2 hM2 hg2 hat2))
  have hcall := hb1.out w2 A2 c2 hM2.rd
  rw [← HK1.out] at hcall
  have hB2 := hM2.b
  clear hM2 hg2 hat2
  go_wp2_with fail
  refine hcall.mono ?_
  rintro e w3 ⟨A3, c3, rfl, hM3⟩
  have hB3 := hB2.trans (hM3.b.mono hB2.size)
  have hcal2 := hb2.out w3 hB3
  rw [← HK.out] at hcal2
  have e1 : ((k1 : Int) == (k : Int)) = decide (k1 = k) := by rw [Bool.eq_iff_iff]; simp; omega
  clear hcall hM3 hB2
  go_wp2_with fail
  refine hcal2.mono ?_
  rintro e w4 ⟨A4, c4, rfl, hM4⟩
  have hB4 := hB3.trans (hM4.b.mono hB3.size)
  clear hcal2 hM4
  go_wp2
  go_ret
  exact ⟨rfl, hB4⟩
set_option maxHeartbeats 1600000 in
set_option maxRecDepth 8000 in
theorem InSpan_any (p : Int) (A : Option Addr) (n c : Nat) (L : List (List Int)) (X : Option Addr) (m cx : Nat) (v : List Int) (w : World) (HP : isP p = true) (hn0 : 0 < n) (hn : n ≤ 16) (hm1 : 1 ≤ m) (hm : m ≤ 16) (ha : RdII w A n L) (hL : Tab p m L) (hx : Own w 0 2 X m cx (ints v)) (hv : NumsL p v) :
    Calls Tryz.prog 74 #[.int .i64 p, .slice A n c, .slice X m cx] w fun e w' => e = .returned (.tuple #[.bool (decide ((basisL p (L ++ [v])).length = (basisL p L).length)), .int .i64 0]) ∧ Below w.heap.size w w' := by
  obtain ⟨hp3, hp2⟩ := isP_ge HP
  have hip := IsPrime_b p w HP
  have hit := isTable_ok p A n c L m w (by omega) hp2 hn hm1 hm ha hL
  have his := is_b p X m cx v w (by omega) (by omega) (by omega) hx.rd (List.all_eq_true.2 fun x hx => by have := hv x hx; simp [inR]; omega)
  have hsp := spans_any p A n c L X m cx v w HP hn0 hn hm1 hm ha hL hx hv
  obtain ⟨g, o, rfl, hx0, A0, c0, hc0, -, -⟩ := ha.at_ hn0
  rw [(hL L[0] (List.getElem_mem hx0)).1, Nat.add_zero] at hc0
  have t1 : ((n : Int) == 0) = false := by simp; omega
  have t4 : ((m : Int) != (m : Int)) = false := by simp
  obtain ⟨b, hb⟩ : ∃ b, b = decide ((basisL p (L ++ [v])).length = (basisL p L).length) := ⟨_, rfl⟩
  rw [← hb] at hsp ⊢
  clear hL ha hx hv HP hb
  go_enter Tryz.func74, Tryz.ntmps74
  go_wp2_with fail
  refine hip.mono ?_
  rintro e w1 ⟨rfl, rfl⟩
  go_wp2_with fail
  refine hit.mono ?_
  rintro e w1 ⟨rfl, rfl⟩
  go_wp2_with fail
  refine his.mono ?_
  rintro e w1 ⟨rfl, rfl⟩
  go_wp2_with fail
  refine hsp.mono ?_
  rintro e w1 ⟨rfl, hb⟩
  go_wp2
  go_ret2
  exact ⟨rfl, hb⟩
end Go.Proofs.YtggigolkncckoaaGreat
namespace Go.Proofs.YtggigolkncckoaaGreat
theorem zeroL_iff (xs : List Int) : zeroL xs = true ↔ ∀ y ∈ xs, y = 0 := by
  unfold zeroL
  rw [beq_iff_eq]
  constructor
  · intro h y hy
    obtain ⟨i, hi, rfl⟩ := List.getElem_of_mem hy
    have := leadL_before xs i (by omega)
    rwa [getD_of_lt 0 hi] at this
  · intro h
    refine Classical.byContradiction fun hne => ?_
    have hlt : leadL xs < xs.length := by have := leadL_le xs; omega
    exact leadL_at xs hlt (h _ (getD_mem 0 hlt))
section
variable {p : Int} {n : Nat}
/-- A vector lies in the subspace of a multivector when their outer product is 0. -/
theorem contains_iff {sq : List Int} (hn : sq.length = n) (h0 : 0 < n) (hP : isP p = true) {xs v : List Int} (hl : xs.length = pw n) (hx : NumsL p xs) (hv : NumsL p v) : zeroL (wedgeL p sq (vecTo n v n) xs) = true ↔ Sp p n (subL p sq n xs) fun q => v.getD q 0 := by
  have h3 := isP_ge hP
  have hp : 0 < p := by omega
  obtain ⟨x, rfl⟩ : ∃ x : Cl p (zs n), x.l = xs := ⟨⟨xs, hl.trans (by rw [zs_len]), hx, hp⟩, rfl⟩
  have e : vecTo n v n = (Cl.vec hp v : Cl p (zs n)).l := by rw [Cl.vec_l hp hv, zs_len]
  rw [sub_sp hn h0 hp hP x v, zeroL_iff, e, wedge_cl' hn]
  constructor
  · intro h
    refine Cl.same fun m hm => ?_
    rw [Cl.zero_co hp hm]
    have : (Cl.vec hp v * x : Cl p (zs n)).co m = 0 := h _ (getD_mem 0 (by rw [Cl.len]; exact hm))
    rw [this, Int.zero_emod]
  · intro h
    rw [h]; exact Cl.zero_all hp
theorem sp_nil {v : List Int} (hl : v.length = n) (hv : NumsL p v) : (Sp p n [] fun q => v.getD q 0) ↔ ∀ y ∈ v, y = 0 := by
  constructor
  · rintro ⟨c, hc⟩ y hy
    obtain ⟨i, hi, rfl⟩ := List.getElem_of_mem hy
    have h1 : v.getD i 0 % p = _ := hc i (by omega)
    have h2 := hv v[i] hy
    rw [getD_of_lt 0 hi] at h1
    have h3 : v[i] % p = 0 := h1.trans (by simp [sumTo])
    rw [Int.emod_eq_of_lt h2.1 h2.2] at h3
    exact h3
  · intro h
    refine ⟨fun _ => 0, fun q hq => ?_⟩
    have : v.getD q 0 = 0 := h _ (getD_mem 0 (by omega))
    show v.getD q 0 % p = _
    rw [this]; simp [sumTo]
end
section
variable {P : Int} {sq xs v : List Int}
/-- The facts for a blade and a vector. -/
theorem blades_in (h : codeLv P sq xs v = 0) : ∃ (L : List (List Int)) (f : Int) (b : Bool), isP P = true ∧ P ≤ 13 ∧ 1 ≤ sq.length ∧ sq.length ≤ 6 ∧ isSp P sq = true ∧ subR P sq xs = (L, 0) ∧ facR P sq xs = (f, 0) ∧ 0 ≤ f ∧ f < P ∧ codeLs P sq L = 0 ∧ Tab P sq.length L ∧ L.length ≤ sq.length ∧
    codeM P sq [wedgesL P sq sq.length L] = 0 ∧ scaleL P (wedgesL P sq sq.length L) f = xs ∧ isblR P sq xs = (true, 0) ∧ contR P sq xs v = (b, 0) ∧ b = decide ((basisL P (L ++ [v])).length = (basisL P L).length) ∧ (L = [] → b = decide (∀ y ∈ v, y = 0)) ∧ v.length = sq.length ∧ NumsL P v ∧ xs.length = pw sq.length := by
  obtain ⟨hM, hv, hb⟩ := codeLv_zero h
  obtain ⟨hP, hp2, hp13, h1, h6, hs, hms⟩ := codeM_spec3 hM
  obtain ⟨hxl, hxn⟩ := hms xs (by simp)
  obtain ⟨hvl, hvn⟩ := isVe_spec3 hv
  obtain ⟨hsp, -⟩ := codeM_sp hM
  have hL : codeL P sq [xs] = 0 := codeL_good hM (by simpa using hb)
  have hR : Red sq.length (subL P sq sq.length xs) := by unfold subL; exact kernL_red hP _ _
  have hT : Tab P sq.length (subL P sq sq.length xs) := by unfold subL; exact kernL_tab hp2 _ _
  obtain ⟨e1, e2, e3⟩ := blade_factor (sq := sq) rfl (by omega) h6 hP hxl hxn hb
  have hc := contains_iff (sq := sq) rfl (by omega) hP hxl hxn hvn
  have hcL : codeLs P sq (subL P sq sq.length xs) = 0 := by
    rw [codeLs_sp hsp, if_pos]
    rw [Bool.and_eq_true]
    exact ⟨List.all_eq_true.2 fun u hu => isVe_mk (hT u hu).1 (hT u hu).2, decide_eq_true (by have := hR.len; omega)⟩
  refine ⟨_, _, zeroL (wedgeL P sq (vecTo sq.length v sq.length) xs), hP, hp13, h1, h6, hsp, subR_ok hL, facR_ok hL, e2, e3, hcL, hT, hR.len, codeM_mk hsp (all_one ⟨wedgesL_len _ _ _ _ _ rfl, wedgesL_nums hp2 _ _ _⟩), e1.symm, by rw [isblR_ok hM, hb], contR_ok h, ?_, fun hnil => ?_, hvl, hvn, hxl⟩
  · rw [Bool.eq_iff_iff, hc, decide_eq_true_iff, in_span_iff hP hR hT ⟨hvl, hvn⟩]
  · rw [Bool.eq_iff_iff, hc, decide_eq_true_iff, hnil, sp_nil hvl hvn]
/-- The facts for a list of vectors. -/
theorem blades_out {L : List (List Int)} (h : codeLs P sq L = 0) : isP P = true ∧ P ≤ 13 ∧ 1 ≤ sq.length ∧ sq.length ≤ 6 ∧ isblR P sq (blaL P sq sq.length L) = (true, 0) ∧ isblR P sq (wedgesL P sq sq.length L) = (!(decide (∀ y ∈ wedgesL P sq sq.length L, y = 0)), 0) := by
  have hsp : isSp P sq = true := Classical.byContradiction fun hn => by
    rw [codeLs_no (by simpa using hn)] at h
    exact absurd h (by decide)
  rw [codeLs_sp hsp] at h
  by_cases ha : (L.all (isVe P sq) && decide (L.length ≤ 16)) = true
  · rw [Bool.and_eq_true] at ha
    have hT : Tab P sq.length L := fun u hu => isVe_spec3 (List.all_eq_true.1 ha.1 u hu)
    obtain ⟨hP, h1, h6, -⟩ := isSp_dim hsp
    have h3 := isP_ge hP
    refine ⟨hP, h3.2, h1, h6, ?_, ?_⟩
    · rw [isblR_ok (codeM_mk hsp (all_one ⟨blaL_len _ _ _ _, blaL_nums (by omega) _ _ _⟩))]
      unfold blaL
      rw [blade_wedges rfl (by omega) h6 hP (basisL_red hP L hT) (basisL_tab (by omega) L hT)]
    · rw [isblR_ok (codeM_mk hsp (all_one ⟨wedgesL_len _ _ _ _ _ rfl, wedgesL_nums (by omega) _ _ _⟩)), wedges_blade rfl (by omega) h6 hP hT]
  · rw [if_neg ha] at h
    exact absurd h (by decide)
end
end Go.Proofs.YtggigolkncckoaaGreat
namespace Go.Proofs.YtggigolkncckoaaGreat
open Go.RowKit
theorem codeLs_zero {P : Int} {sq : List Int} {L : List (List Int)} (h : codeLs P sq L = 0) : codeV P sq L = 0 ∧ L.length ≤ 16 := by
  unfold codeLs at h
  by_cases h1 : codeV P sq L = 0
  · rw [if_pos h1] at h
    by_cases h2 : 16 < L.length
    · rw [if_pos h2] at h; exact absurd h (by decide)
    · exact ⟨h1, by omega⟩
  · rw [if_neg h1] at h; exact absurd h h1
end Go.Proofs.YtggigolkncckoaaGreat
namespace Go.Proofs.YtggigolkncckoaaGreat
open Go.RowKit
/-- BladeOfVectors. -/
def bovR (P : Int) (sq : List Int) (L : List (List Int)) : List Int × Int := if codeLs P sq L = 0 then (blaL P sq sq.length L, 0) else ([], codeLs P sq L)
theorem bovR_ok {P : Int} {sq : List Int} {L : List (List Int)} (h : codeLs P sq L = 0) : bovR P sq L = (blaL P sq sq.length L, 0) := by unfold bovR; rw [if_pos h]
theorem bovR_bad {P : Int} {sq : List Int} {L : List (List Int)} (h : ¬ codeLs P sq L = 0) : bovR P sq L = ([], codeLs P sq L) := by unfold bovR; rw [if_neg h]
set_option maxHeartbeats 3200000 in
set_option maxRecDepth 8000 in
theorem BladeOfVectors_any (P : Int) (A : Option Addr) (n c : Nat) (sq : List Int) (B : Option Addr) (m d : Nat) (L : List (List Int)) (w : World) (hn : n ≤ 1048576) (hm : m ≤ 1048576) (ha : Rd w A n (ints sq)) (hb : RdII w B m L) (hL : ∀ ys ∈ L, ys.length ≤ 1048576) :
    Calls Tryz.prog 92 #[.agg #[.int .i64 P, .slice A n c], .slice B m d] w fun e w' => ∃ (A' : Option Addr) (k c' : Nat), e = .returned (.tuple #[.slice A' k c', .int .i64 (bovR P sq L).2]) ∧ MkI w w' A' k c' (bovR P sq L).1 := by
  have hreg := checkList_any P A n c sq B m d L (w.alloc (.cells #[.int .i64 P, .slice A n c] 26)) hn hm (ha.below ((Below.refl _ _).alloc (Nat.le_refl _) _)) (hb.below ((Below.refl _ _).alloc (Nat.le_refl _) _)) hL
  have hB0 : Below w.heap.size w (w.alloc (.cells #[.int .i64 P, .slice A n c] 26)) := (Below.refl _ _).alloc (Nat.le_refl _) _
  have k0 : Blk (w.alloc (.cells #[.int .i64 P, .slice A n c] 26)) w.heap.size 26 #[.int .i64 P, .slice A n c] := Blk.new _ _ _
  have hsl := ha.lenI
  by_cases hr0 : codeLs P sq L = 0
  · rw [hr0] at hreg
    have HR0 := Lib.hid hr0
    obtain ⟨hcv, -⟩ := codeLs_zero hr0
    obtain ⟨HP, hp, hp2, hd1, hd2, hs0, hvs⟩ := codeV_spec hcv
    have HT : Hid (Tab P n L) := Lib.hid (fun v hv => by rw [← hsl]; exact hvs v hv)
    have HSQ := Lib.hid hs0
    have HSL := Lib.hid hsl
    have hn6 : n ≤ 6 := by omega
    have hn0 : 0 < n := by omega
    have HPP := Lib.hid HP
    have HM16 : Hid (m ≤ 16) := Lib.hid (by rw [← hb.len]; exact (codeLs_zero hr0).2)
    clear hr0 hcv hd1 hd2 hs0 hvs hsl HP
    obtain ⟨q0, q1⟩ := k0.two
    go_enter Tryz.func92, Tryz.ntmps92
    go_wp2_with fail
    refine hreg.mono ?_
    rintro e w2 ⟨rfl, hb2⟩
    have hB2 := hB0.trans (hb2.mono hB0.size)
    have k2 := k0.below hb2 k0.lt
    clear q0 q1 hreg
    obtain ⟨q0, q1⟩ := k2.two
    have hve := bladeOf_any P A n c sq B m d L w2 HPP.out hn6 hn0 (by have := HM16.out; omega) (ha.below hB2) HSQ.out (hb.below hB2) HT.out
    go_wp2_with fail
    refine hve.mono ?_
    rintro e w5 ⟨A5, c5, rfl, hM5⟩
    go_wp2
    go_ret2
    exact ⟨A5, pw n, c5, (by rw [bovR_ok HR0.out]; first | done | rfl), by rw [bovR_ok HR0.out, HSL.out]; exact hM5.after hB2⟩
  · obtain ⟨r, hr⟩ : ∃ r, r = codeLs P sq L := ⟨_, rfl⟩
    have HC : Hid (codeLs P sq L = r) := Lib.hid hr.symm
    have HRN : Hid (¬ r = 0) := Lib.hid (by rw [hr]; exact hr0)
    have b0 : (r != 0) = true := code_ne (by rw [hr]; exact hr0)
    rw [← hr] at hreg
    obtain ⟨q0, q1⟩ := k0.two
    clear hr hr0 hsl
    go_enter Tryz.func92, Tryz.ntmps92
    go_wp2_with fail
    refine hreg.mono ?_
    rintro e w2 ⟨rfl, hb2⟩
    go_wp2
    go_ret2
    exact noRow3 (by rw [bovR_bad (by rw [HC.out]; exact HRN.out), HC.out]) (hB0.trans (hb2.mono hB0.size))
set_option maxHeartbeats 3200000 in
set_option maxRecDepth 8000 in
theorem specBladeOfVectors_any (P : Int) (A : Option Addr) (n c : Nat) (sq : List Int) (B : Option Addr) (m d : Nat) (L : List (List Int)) (w : World) (hn : n ≤ 1048576) (hm : m ≤ 1048576) (ha : Rd w A n (ints sq)) (hb : RdII w B m L) (hL : ∀ ys ∈ L, ys.length ≤ 1048576) :
    Calls Tryz.prog 93 #[.agg #[.int .i64 P, .slice A n c], .slice B m d] w fun e w' => ∃ (A' : Option Addr) (k c' : Nat), e = .returned (.tuple #[.slice A' k c', .int .i64 (bovR P sq L).2]) ∧ MkI w w' A' k c' (bovR P sq L).1 := by
  have hreg := l05List_any P A n c sq B m d L (w.alloc (.cells #[.int .i64 P, .slice A n c] 26)) hn hm (ha.below ((Below.refl _ _).alloc (Nat.le_refl _) _)) (hb.below ((Below.refl _ _).alloc (Nat.le_refl _) _)) hL
  have hB0 : Below w.heap.size w (w.alloc (.cells #[.int .i64 P, .slice A n c] 26)) := (Below.refl _ _).alloc (Nat.le_refl _) _
  have k0 : Blk (w.alloc (.cells #[.int .i64 P, .slice A n c] 26)) w.heap.size 26 #[.int .i64 P, .slice A n c] := Blk.new _ _ _
  have hsl := ha.lenI
  by_cases hr0 : codeLs P sq L = 0
  · rw [hr0] at hreg
    have HR0 := Lib.hid hr0
    obtain ⟨hcv, -⟩ := codeLs_zero hr0
    obtain ⟨HP, hp, hp2, hd1, hd2, hs0, hvs⟩ := codeV_spec hcv
    have HT : Hid (Tab P n L) := Lib.hid (fun v hv => by rw [← hsl]; exact hvs v hv)
    have HSQ := Lib.hid hs0
    have HSL := Lib.hid hsl
    have hn6 : n ≤ 6 := by omega
    have hn0 : 0 < n := by omega
    have HPP := Lib.hid HP
    have HM16 : Hid (m ≤ 16) := Lib.hid (by rw [← hb.len]; exact (codeLs_zero hr0).2)
    clear hr0 hcv hd1 hd2 hs0 hvs hsl HP
    obtain ⟨q0, q1⟩ := k0.two
    go_enter Tryz.func93, Tryz.ntmps93
    go_wp2_with fail
    refine hreg.mono ?_
    rintro e w2 ⟨rfl, hb2⟩
    have hB2 := hB0.trans (hb2.mono hB0.size)
    have k2 := k0.below hb2 k0.lt
    clear q0 q1 hreg
    obtain ⟨q0, q1⟩ := k2.two
    have hve := l06Blade_any P A n c sq B m d L w2 HPP.out hn6 hn0 (by have := HM16.out; omega) (ha.below hB2) HSQ.out (hb.below hB2) HT.out
    go_wp2_with fail
    refine hve.mono ?_
    rintro e w5 ⟨A5, c5, rfl, hM5⟩
    go_wp2
    go_ret2
    exact ⟨A5, pw n, c5, (by rw [bovR_ok HR0.out]; first | done | rfl), by rw [bovR_ok HR0.out, HSL.out]; exact hM5.after hB2⟩
  · obtain ⟨r, hr⟩ : ∃ r, r = codeLs P sq L := ⟨_, rfl⟩
    have HC : Hid (codeLs P sq L = r) := Lib.hid hr.symm
    have HRN : Hid (¬ r = 0) := Lib.hid (by rw [hr]; exact hr0)
    have b0 : (r != 0) = true := code_ne (by rw [hr]; exact hr0)
    rw [← hr] at hreg
    obtain ⟨q0, q1⟩ := k0.two
    clear hr hr0 hsl
    go_enter Tryz.func93, Tryz.ntmps93
    go_wp2_with fail
    refine hreg.mono ?_
    rintro e w2 ⟨rfl, hb2⟩
    go_wp2
    go_ret2
    exact noRow3 (by rw [bovR_bad (by rw [HC.out]; exact HRN.out), HC.out]) (hB0.trans (hb2.mono hB0.size))
set_option maxHeartbeats 3200000 in
set_option maxRecDepth 8000 in
theorem WedgeOfVectors_ok (P : Int) (A : Option Addr) (n c : Nat) (sq : List Int) (B : Option Addr) (m d : Nat) (L : List (List Int)) (w : World) (hn : n ≤ 1048576) (hm : m ≤ 1048576) (ha : Rd w A n (ints sq)) (hb : RdII w B m L) (hL : ∀ ys ∈ L, ys.length ≤ 1048576) (hr0 : codeLs P sq L = 0) :
    Calls Tryz.prog 88 #[.agg #[.int .i64 P, .slice A n c], .slice B m d] w fun e w' => ∃ (A' : Option Addr) (c' : Nat), e = .returned (.tuple #[.slice A' (pw n) c', .int .i64 0]) ∧ MkI w w' A' (pw n) c' (wedgesL P sq n L) := by
  have hreg := checkList_any P A n c sq B m d L (w.alloc (.cells #[.int .i64 P, .slice A n c] 26)) hn hm (ha.below ((Below.refl _ _).alloc (Nat.le_refl _) _)) (hb.below ((Below.refl _ _).alloc (Nat.le_refl _) _)) hL
  have hB0 : Below w.heap.size w (w.alloc (.cells #[.int .i64 P, .slice A n c] 26)) := (Below.refl _ _).alloc (Nat.le_refl _) _
  have k0 : Blk (w.alloc (.cells #[.int .i64 P, .slice A n c] 26)) w.heap.size 26 #[.int .i64 P, .slice A n c] := Blk.new _ _ _
  have hsl := ha.lenI
  rw [hr0] at hreg
  obtain ⟨hcv, -⟩ := codeLs_zero hr0
  obtain ⟨HP, hp, hp2, hd1, hd2, hs0, hvs⟩ := codeV_spec hcv
  have HT : Hid (Tab P n L) := Lib.hid (fun v hv => by rw [← hsl]; exact hvs v hv)
  have HSQ := Lib.hid hs0
  have hn6 : n ≤ 6 := by omega
  have hn0 : 0 < n := by omega
  have HPP := Lib.hid HP
  have HM16 : Hid (m ≤ 16) := Lib.hid (by rw [← hb.len]; exact (codeLs_zero hr0).2)
  clear hr0 hcv hd1 hd2 hs0 hvs hsl HP
  obtain ⟨q0, q1⟩ := k0.two
  go_enter Tryz.func88, Tryz.ntmps88
  go_wp2_with fail
  refine hreg.mono ?_
  rintro e w2 ⟨rfl, hb2⟩
  have hB2 := hB0.trans (hb2.mono hB0.size)
  have k2 := k0.below hb2 k0.lt
  clear q0 q1 hreg
  obtain ⟨q0, q1⟩ := k2.two
  have hve := wedgeAll_any P A n c sq B m d L w2 HPP.out hn6 hn0 (by have := HM16.out; omega) (ha.below hB2) HSQ.out (hb.below hB2) HT.out
  go_wp2_with fail
  refine hve.mono ?_
  rintro e w5 ⟨A5, c5, rfl, hM5⟩
  go_wp2
  go_ret2
  exact ⟨A5, c5, rfl, hM5.after hB2⟩
set_option maxHeartbeats 3200000 in
set_option maxRecDepth 8000 in
theorem ScaleMultivector_ok (P : Int) (A : Option Addr) (n c : Nat) (sq : List Int) (X : Option Addr) (m cx : Nat) (xs : List Int) (k : Int) (w : World) (hn : n ≤ 1048576) (hm : m ≤ 1048576) (ha : Rd w A n (ints sq)) (hx : Rd w X m (ints xs)) (hcx : m ≤ cx) (hr0 : codeM P sq [xs] = 0) (hk0 : 0 ≤ k) (hk1 : k < P) :
    Calls Tryz.prog 89 #[.agg #[.int .i64 P, .slice A n c], .slice X m cx, .int .i64 k] w fun e w' => ∃ (A' : Option Addr) (c' : Nat), e = .returned (.tuple #[.slice A' m c', .int .i64 0]) ∧ MkI w w' A' m c' (scaleL P xs k) := by
  have hB0 : Below w.heap.size w (w.alloc (.cells #[.int .i64 P, .slice A n c] 26)) := (Below.refl _ _).alloc (Nat.le_refl _) _
  have k0 : Blk (w.alloc (.cells #[.int .i64 P, .slice A n c] 26)) w.heap.size 26 #[.int .i64 P, .slice A n c] := Blk.new _ _ _
  have hB1 : Below w.heap.size w ((w.alloc (.cells #[.int .i64 P, .slice A n c] 26)).alloc (.cells #[.slice X m cx] 24)) := hB0.alloc (by simp) _
  have k1 : Blk ((w.alloc (.cells #[.int .i64 P, .slice A n c] 26)).alloc (.cells #[.slice X m cx] 24)) w.heap.size 26 #[.int .i64 P, .slice A n c] := k0.alloc _
  have hreg := checkMultis_any P A (some ⟨w.heap.size + 1, 0, none⟩) n c 1 1 sq [xs] ((w.alloc (.cells #[.int .i64 P, .slice A n c] 26)).alloc (.cells #[.slice X m cx] 24)) hn (by omega) (ha.below hB1) (rdII_one' (Blk.newAt3 (by simp)) (hx.below hB1) hcx) (all_one (by rw [hx.lenI]; exact hm))
  rw [hr0] at hreg
  obtain ⟨HP, hp, hp2, hd1, hd2, hs0, hms⟩ := codeM_spec3 hr0
  obtain ⟨hx1, hxs0⟩ := hms xs (by simp)
  have hmx : m = pw n := by rw [← hx.lenI, hx1, ha.lenI]
  have hsl9 := ha.lenI
  have hpw : pw n ≤ 64 := pw_le (k := 6) (by omega)
  have HXS := Lib.hid hxs0
  have hm64 : m ≤ 64 := by omega
  clear hr0 hd1 hd2 hs0 hms hx1 hxs0 HP hmx hpw
  obtain ⟨q0, q1⟩ := k1.two
  go_enter Tryz.func89, Tryz.ntmps89
  go_wp2_with fail
  refine hreg.mono ?_
  rintro e w2 ⟨rfl, hb2⟩
  have hB2 := hB1.trans (hb2.mono hB1.size)
  have k2 := k1.below hb2 k1.lt
  clear q0 q1 hreg hb2 k1 k0 hB0 hB1
  obtain ⟨q0, q1⟩ := k2.two
  go_wp2_with fail
  refine (field_any _ _ _ _ _).mono ?_
  rintro e w3 ⟨rfl, hb3⟩
  have hB3 := hB2.trans (hb3.mono hB2.size)
  have k3 := k2.below hb3 k2.lt
  have hM := Mk.lit (E := 2) (Below.refl w3.heap.size w3) #[.int .i64 k] (by simp [maxLen])
  have hB4 := hB3.trans (hM.1.mono hB3.size)
  have k4 := k3.below hM.1 k3.lt
  have hrd : Rd (w3.alloc (.cells #[.int .i64 k] 2)) (some ⟨w3.heap.size, 0, none⟩) 1 (ints [k]) := by
    have := hM.2.rd
    simpa [ints] using this
  have his := is_b P (some ⟨w3.heap.size, 0, none⟩) 1 1 [k] _ (by omega) (by omega) (by omega) hrd (show nums P [k] = true by simp [nums, inR]; omega)
  clear hM hrd q0 q1 k2 hB2 hb3 k3
  go_wp2_with fail
  refine his.mono ?_
  rintro e w5 ⟨rfl, rfl⟩
  obtain ⟨w4, hw4⟩ : ∃ W, W = (w3.alloc (.cells #[.int .i64 k] 2)) := ⟨_, rfl⟩
  rw [← hw4] at k4 hB4 ⊢
  obtain ⟨q0, q1⟩ := k4.two
  clear his hw4
  go_wp2_with fail
  refine (field_any _ _ _ _ _).mono ?_
  rintro e w6 ⟨rfl, hb6⟩
  have hB6 := hB4.trans (hb6.mono hB4.size)
  have hsc := scaled_any P X m cx k xs w6 hp hp2 (by omega) (hx.below hB6) HXS.out (by omega) (by omega)
  clear q0 q1 k4 hB4 hb6
  go_wp2_with fail
  refine hsc.mono ?_
  rintro e w7 ⟨A5, c5, rfl, hM5⟩
  go_wp2
  go_ret2
  exact ⟨A5, c5, rfl, hM5.after hB6⟩
end Go.Proofs.YtggigolkncckoaaGreat

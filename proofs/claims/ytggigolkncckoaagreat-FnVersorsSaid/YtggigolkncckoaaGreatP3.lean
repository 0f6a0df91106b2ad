/-
  LawFnVersors: part 3 of the texts that the proof needs. No condition.
-/
import Derived.Test.YtggigolkncckoaaGreatP2
namespace Go.Proofs.YtggigolkncckoaaGreat
theorem bit_eq (a i : Nat) : bit a i = (a.testBit i).toNat := by
  unfold bit
  rw [Nat.testBit_eq_decide_div_mod_eq]
  rcases Nat.mod_two_eq_zero_or_one (a / 2 ^ i) with h | h <;> rw [h] <;> rfl
theorem bit_le (a i : Nat) : bit a i < 2 := by unfold bit; exact Nat.mod_lt _ (by decide)
theorem bit_xor (a b i : Nat) : bit (a ^^^ b) i = (bit a i + bit b i) % 2 := by
  rw [bit_eq, bit_eq, bit_eq, Nat.testBit_xor]
  cases a.testBit i <;> cases b.testBit i <;> rfl
/-- The number of the first k bits. -/
def pcn (a : Nat) : Nat → Nat
  | 0 => 0
  | k + 1 => pcn a k + bit a k
theorem bit_half (a i : Nat) : bit (a / 2) i = bit a (i + 1) := by
  unfold bit
  rw [Nat.div_div_eq_div_mul, Nat.pow_succ, Nat.mul_comm]
theorem pcn_half (a : Nat) : ∀ k, pcn a (k + 1) = a % 2 + pcn (a / 2) k := by
  intro k
  induction k with
  | zero => simp [pcn, bit]
  | succ k ih =>
    rw [pcn, ih, pcn, bit_half, Nat.add_assoc]
theorem pc_pcn : ∀ (k a : Nat), a < 2 ^ k → pc a = pcn a k := by
  intro k
  induction k with
  | zero =>
    intro a h
    obtain rfl : a = 0 := by omega
    rw [pc_zero]; rfl
  | succ k ih =>
    intro a h
    rw [pc_rec, pcn_half, ih _ (by rw [Nat.pow_succ] at h; omega)]
theorem pcn_xor (a b : Nat) : ∀ k, pcn (a ^^^ b) k % 2 = (pcn a k + pcn b k) % 2 := by
  intro k
  induction k with
  | zero => rfl
  | succ k ih =>
    simp only [pcn]
    rw [bit_xor]
    omega
theorem pc_xor (a b : Nat) : pc (a ^^^ b) % 2 = (pc a + pc b) % 2 := by
  obtain ⟨k, ha, hb⟩ : ∃ k, a < 2 ^ k ∧ b < 2 ^ k :=
    ⟨a + b, Nat.lt_of_le_of_lt (Nat.le_add_right a b) Nat.lt_two_pow_self, Nat.lt_of_le_of_lt (Nat.le_add_left b a) Nat.lt_two_pow_self⟩
  rw [pc_pcn k _ (Nat.xor_lt_two_pow ha hb), pc_pcn k _ ha, pc_pcn k _ hb]
  exact pcn_xor a b k
theorem xor_div (a b k : Nat) : (a ^^^ b) / 2 ^ k = (a / 2 ^ k) ^^^ (b / 2 ^ k) := by
  rw [← Nat.shiftRight_eq_div_pow, ← Nat.shiftRight_eq_div_pow, ← Nat.shiftRight_eq_div_pow]
  exact Nat.shiftRight_xor_distrib
theorem swaps_left (a c b : Nat) : ∀ n, swaps (a ^^^ c) b n % 2 = (swaps a b n + swaps c b n) % 2 := by
  intro n
  induction n with
  | zero => rfl
  | succ n ih =>
    simp only [swaps]
    by_cases h : bit b n = 1
    · simp only [if_pos h]
      have := pc_xor (a / 2 ^ (n + 1)) (c / 2 ^ (n + 1))
      rw [xor_div]
      omega
    · simp only [if_neg h]; omega
theorem swaps_right (a b c : Nat) : ∀ n, swaps a (b ^^^ c) n % 2 = (swaps a b n + swaps a c n) % 2 := by
  intro n
  induction n with
  | zero => rfl
  | succ n ih =>
    simp only [swaps]
    rw [bit_xor]
    have h1 := bit_le b n
    have h2 := bit_le c n
    rcases (show bit b n = 0 ∨ bit b n = 1 by omega) with e1 | e1 <;> rcases (show bit c n = 0 ∨ bit c n = 1 by omega) with e2 | e2 <;> simp [e1, e2] <;> omega
/-- 1 or -1: the sign of a number of exchanges. -/
def sg (k : Nat) : Int := if k % 2 = 1 then -1 else 1
theorem sg_add (k l : Nat) : sg (k + l) = sg k * sg l := by
  unfold sg
  rcases Nat.mod_two_eq_zero_or_one k with h | h <;> rcases Nat.mod_two_eq_zero_or_one l with h' | h' <;> simp [Nat.add_mod, h, h']
theorem sg_congr {k l : Nat} (h : k % 2 = l % 2) : sg k = sg l := by unfold sg; rw [h]
/-- The product of the first i squares that both masks have, as an integer. -/
def comZ (sq : List Int) (a b : Nat) : Nat → Int
  | 0 => 1
  | i + 1 => comZ sq a b i * (if bit b i = 1 ∧ bit a i = 1 then sq.getD i 0 else 1)
theorem common_comZ (p : Int) (sq : List Int) (a b : Nat) : ∀ i, common p sq a b i % p = comZ sq a b i % p := by
  intro i
  induction i with
  | zero => rfl
  | succ i ih =>
    simp only [common, comZ]
    split
    · rw [Int.emod_emod_of_dvd _ (Int.dvd_refl p), Int.mul_emod, ih, ← Int.mul_emod]
    · rw [Int.mul_one, ih]
theorem comZ_symm (sq : List Int) (a b : Nat) : ∀ i, comZ sq a b i = comZ sq b a i := by
  intro i
  induction i with
  | zero => rfl
  | succ i ih => simp only [comZ]; rw [ih]; congr 1; simp only [And.comm]
theorem comZ_cocycle (sq : List Int) (a b c : Nat) : ∀ i, comZ sq a b i * comZ sq (a ^^^ b) c i = comZ sq b c i * comZ sq a (b ^^^ c) i := by
  intro i
  induction i with
  | zero => rfl
  | succ i ih =>
    simp only [comZ]
    rw [bit_xor, bit_xor]
    have key : ∀ X Y Z W s t u v : Int, X * Y = Z * W → s * t = u * v → (X * s) * (Y * t) = (Z * u) * (W * v) := fun X Y Z W s t u v h1 h2 => by
      rw [show (X * s) * (Y * t) = (X * Y) * (s * t) by rw [Int.mul_assoc, Int.mul_left_comm s, ← Int.mul_assoc], h1, h2]
      rw [Int.mul_assoc, Int.mul_left_comm W, ← Int.mul_assoc]
    refine key _ _ _ _ _ _ _ _ ih ?_
    have h1 := bit_le a i
    have h2 := bit_le b i
    have h3 := bit_le c i
    rcases (show bit a i = 0 ∨ bit a i = 1 by omega) with e1 | e1 <;> rcases (show bit b i = 0 ∨ bit b i = 1 by omega) with e2 | e2 <;> rcases (show bit c i = 0 ∨ bit c i = 1 by omega) with e3 | e3 <;> simp [e1, e2, e3]
/-- The number by which the product of two blades is that of their different bits, as an integer. -/
def facZ (sq : List Int) (a b : Nat) : Int := sg (swaps a b sq.length) * comZ sq a b sq.length
theorem fac_facZ (p : Int) (sq : List Int) (a b : Nat) : fac p sq a b % p = facZ sq a b % p := by
  unfold fac facZ sg
  split
  · rw [Int.emod_emod_of_dvd _ (Int.dvd_refl p), Int.neg_mul, Int.one_mul, ← Int.zero_sub, ← Int.zero_sub, Int.sub_emod, common_comZ, ← Int.sub_emod]
  · rw [Int.one_mul, common_comZ]
theorem facZ_cocycle (sq : List Int) (a b c : Nat) : facZ sq a b * facZ sq (a ^^^ b) c = facZ sq b c * facZ sq a (b ^^^ c) := by
  unfold facZ
  have hs : sg (swaps a b sq.length) * sg (swaps (a ^^^ b) c sq.length) = sg (swaps b c sq.length) * sg (swaps a (b ^^^ c) sq.length) := by
    rw [← sg_add, ← sg_add]
    apply sg_congr
    have h1 := swaps_left a b c sq.length
    have h2 := swaps_right a b c sq.length
    omega
  have hc := comZ_cocycle sq a b c sq.length
  have key : ∀ X Y Z W s t u v : Int, X * Y = Z * W → s * t = u * v → (X * s) * (Y * t) = (Z * u) * (W * v) := fun X Y Z W s t u v h1 h2 => by
    rw [show (X * s) * (Y * t) = (X * Y) * (s * t) by rw [Int.mul_assoc, Int.mul_left_comm s, ← Int.mul_assoc], h1, h2]
    rw [Int.mul_assoc, Int.mul_left_comm W, ← Int.mul_assoc]
  exact key _ _ _ _ _ _ _ _ hs hc
theorem xor_self_left (a b : Nat) : a ^^^ (a ^^^ b) = b := by rw [← Nat.xor_assoc, Nat.xor_self, Nat.zero_xor]
theorem xor_self_right (a b : Nat) : (b ^^^ a) ^^^ a = b := by rw [Nat.xor_assoc, Nat.xor_self, Nat.xor_zero]
theorem sumTo_xor {n : Nat} (f : Nat → Int) {c : Nat} (hc : c < pw n) : sumTo (pw n) f = sumTo (pw n) fun a => f (a ^^^ c) := by
  have h : ∀ b, b < pw n → f b = sumTo (pw n) fun a => if a ^^^ c = b then f b else 0 := fun b hb => by
    rw [sumTo_one (b ^^^ c) (xor_lt hb hc) fun i _ hne => if_neg fun e => hne (by rw [← e, xor_self_right]), if_pos (xor_self_right c b)]
  rw [sumTo_congr h, sumTo_comm]
  refine sumTo_congr fun a ha => ?_
  rw [sumTo_one (a ^^^ c) (xor_lt ha hc) fun i _ hne => if_neg fun e => hne e.symm, if_pos rfl]
theorem sumTo_mul_right (n : Nat) (f : Nat → Int) (c : Int) : sumTo n (fun i => f i * c) = sumTo n f * c := by
  rw [Int.mul_comm, ← sumTo_mul]
  exact sumTo_congr fun i _ => Int.mul_comm _ _
/-- The product of multivectors over the integers, at place m. -/
def mulZ (sq : List Int) (x y : Nat → Int) (m : Nat) : Int := sumTo (pw sq.length) fun a => x a * y (a ^^^ m) * facZ sq a (a ^^^ m)
theorem mulZ_assoc (sq : List Int) (x y z : Nat → Int) {m : Nat} (hm : m < pw sq.length) : mulZ sq (mulZ sq x y) z m = mulZ sq x (mulZ sq y z) m := by
  unfold mulZ
  rw [sumTo_congr (g := fun c => sumTo (pw sq.length) fun a => x a * y (a ^^^ c) * facZ sq a (a ^^^ c) * (z (c ^^^ m) * facZ sq c (c ^^^ m))) fun c _ => by
    rw [sumTo_mul_right, Int.mul_assoc], sumTo_comm]
  refine sumTo_congr fun a ha => ?_
  rw [sumTo_xor _ ha, ← sumTo_mul, ← sumTo_mul_right]
  refine sumTo_congr fun b hb => ?_
  have e1 : a ^^^ (b ^^^ a) = b := by rw [Nat.xor_comm b, xor_self_left]
  have e2 : (b ^^^ a) ^^^ m = b ^^^ (a ^^^ m) := Nat.xor_assoc _ _ _
  rw [e1, e2]
  have h := facZ_cocycle sq a b (b ^^^ (a ^^^ m))
  rw [xor_self_left, Nat.xor_comm a b] at h
  calc x a * y b * facZ sq a b * (z (b ^^^ (a ^^^ m)) * facZ sq (b ^^^ a) (b ^^^ (a ^^^ m)))
      = x a * y b * z (b ^^^ (a ^^^ m)) * (facZ sq a b * facZ sq (b ^^^ a) (b ^^^ (a ^^^ m))) := by
        rw [Int.mul_assoc (x a * y b), Int.mul_left_comm (facZ sq a b), ← Int.mul_assoc]
    _ = x a * y b * z (b ^^^ (a ^^^ m)) * (facZ sq b (b ^^^ (a ^^^ m)) * facZ sq a (a ^^^ m)) := by rw [h]
    _ = _ := by
        rw [← Int.mul_assoc, Int.mul_assoc (x a), Int.mul_assoc (x a)]
theorem mulZ_cg (p : Int) (sq : List Int) {x x' y y' : Nat → Int} (hx : ∀ a, a < pw sq.length → x a % p = x' a % p) (hy : ∀ a, a < pw sq.length → y a % p = y' a % p) {m : Nat} (hm : m < pw sq.length) : mulZ sq x y m % p = mulZ sq x' y' m % p := by
  unfold mulZ
  refine sumTo_mod p fun a ha => ?_
  have h1 := hx a ha
  have h2 := hy _ (xor_lt ha hm)
  rw [Int.mul_emod, Int.mul_emod (x a), h1, h2, ← Int.mul_emod (x' a), ← Int.mul_emod]
structure Cl (p : Int) (sq : List Int) where
  l : List Int
  len : l.length = pw sq.length
  nums : NumsL p l
  pos : 0 < p
section
variable {p : Int} {sq : List Int}
/-- The number at a place. -/
def Cl.co (x : Cl p sq) (m : Nat) : Int := x.l.getD m 0
theorem Cl.ext {x y : Cl p sq} (h : x.l = y.l) : x = y := by
  cases x; cases y; cases h; rfl
theorem Cl.co_small (x : Cl p sq) (m : Nat) : 0 ≤ x.co m ∧ x.co m < p := x.nums.getD x.pos m
theorem Cl.co_mod (x : Cl p sq) (m : Nat) : x.co m % p = x.co m := Int.emod_eq_of_lt (x.co_small m).1 (x.co_small m).2
theorem Cl.same {x y : Cl p sq} (h : ∀ m, m < pw sq.length → x.co m % p = y.co m % p) : x = y := by
  refine Cl.ext (list_ext_getD 0 (by rw [x.len, y.len]) fun m hm => ?_)
  have := h m (by rw [← x.len]; exact hm)
  rwa [x.co_mod, y.co_mod] at this
/-- The multivector with these numbers. -/
def Cl.of (hp : 0 < p) (f : Nat → Int) : Cl p sq := ⟨tab (pw sq.length) fun m => f m % p, tab_len _ _, NumsL.tab fun _ _ => ⟨Int.emod_nonneg _ (by omega), Int.emod_lt_of_pos _ hp⟩, hp⟩
theorem Cl.of_co (hp : 0 < p) (f : Nat → Int) {m : Nat} (hm : m < pw sq.length) : (Cl.of hp f : Cl p sq).co m = f m % p := tab_getD hm 0
theorem Cl.of_cg (hp : 0 < p) (f : Nat → Int) {m : Nat} (hm : m < pw sq.length) : (Cl.of hp f : Cl p sq).co m % p = f m % p := by rw [Cl.of_co hp f hm, Int.emod_emod_of_dvd _ (Int.dvd_refl p)]
instance : Mul (Cl p sq) := ⟨fun x y => Cl.of x.pos (mulZ sq x.co y.co)⟩
instance : Add (Cl p sq) := ⟨fun x y => Cl.of x.pos fun m => x.co m + y.co m⟩
instance : Neg (Cl p sq) := ⟨fun x => Cl.of x.pos fun m => -(x.co m)⟩
instance : HMul Int (Cl p sq) (Cl p sq) := ⟨fun k x => Cl.of x.pos fun m => k * x.co m⟩
theorem Cl.mul_co (x y : Cl p sq) {m : Nat} (hm : m < pw sq.length) : (x * y).co m % p = mulZ sq x.co y.co m % p := Cl.of_cg _ _ hm
theorem Cl.add_co (x y : Cl p sq) {m : Nat} (hm : m < pw sq.length) : (x + y).co m % p = (x.co m + y.co m) % p := Cl.of_cg _ _ hm
theorem Cl.neg_co (x : Cl p sq) {m : Nat} (hm : m < pw sq.length) : (-x).co m % p = (-(x.co m)) % p := Cl.of_cg _ _ hm
theorem Cl.sm_co (k : Int) (x : Cl p sq) {m : Nat} (hm : m < pw sq.length) : (k * x).co m % p = (k * x.co m) % p := Cl.of_cg _ _ hm
theorem Cl.mul_assoc (x y z : Cl p sq) : x * y * z = x * (y * z) := Cl.same fun m hm => by
  rw [Cl.mul_co _ _ hm, Cl.mul_co _ _ hm, mulZ_cg p sq (fun a ha => Cl.mul_co x y ha) (fun _ _ => rfl) hm, mulZ_assoc sq _ _ _ hm]
  exact mulZ_cg p sq (fun _ _ => rfl) (fun a ha => (Cl.mul_co y z ha).symm) hm
theorem Cl.add_mul (x y z : Cl p sq) : (x + y) * z = x * z + y * z := Cl.same fun m hm => by
  rw [Cl.mul_co _ _ hm, mulZ_cg p sq (fun a ha => Cl.add_co x y ha) (fun _ _ => rfl) hm, Cl.add_co _ _ hm, Int.add_emod, Cl.mul_co _ _ hm, Cl.mul_co _ _ hm, ← Int.add_emod]
  unfold mulZ
  rw [← sumTo_add]
  congr 1
  exact sumTo_congr fun a _ => by rw [Int.add_mul, Int.add_mul]
theorem Cl.mul_add (x y z : Cl p sq) : x * (y + z) = x * y + x * z := Cl.same fun m hm => by
  rw [Cl.mul_co _ _ hm, mulZ_cg p sq (fun _ _ => rfl) (fun a ha => Cl.add_co y z ha) hm, Cl.add_co _ _ hm, Int.add_emod, Cl.mul_co _ _ hm, Cl.mul_co _ _ hm, ← Int.add_emod]
  unfold mulZ
  rw [← sumTo_add]
  congr 1
  exact sumTo_congr fun a _ => by rw [Int.mul_add, Int.add_mul]
theorem Cl.sm_mul (k : Int) (x y : Cl p sq) : (k * x) * y = k * (x * y) := Cl.same fun m hm => by
  rw [Cl.mul_co _ _ hm, mulZ_cg p sq (fun a ha => Cl.sm_co k x ha) (fun _ _ => rfl) hm, Cl.sm_co _ _ hm, Int.mul_emod k, Cl.mul_co _ _ hm, ← Int.mul_emod]
  unfold mulZ
  rw [← sumTo_mul]
  congr 1
  exact sumTo_congr fun a _ => by rw [Int.mul_assoc, Int.mul_assoc, Int.mul_assoc]
theorem Cl.mul_sm (k : Int) (x y : Cl p sq) : x * (k * y) = k * (x * y) := Cl.same fun m hm => by
  rw [Cl.mul_co _ _ hm, mulZ_cg p sq (fun _ _ => rfl) (fun a ha => Cl.sm_co k y ha) hm, Cl.sm_co _ _ hm, Int.mul_emod k, Cl.mul_co _ _ hm, ← Int.mul_emod]
  unfold mulZ
  rw [← sumTo_mul]
  congr 1
  exact sumTo_congr fun a _ => by rw [Int.mul_left_comm, Int.mul_assoc, Int.mul_assoc]
theorem Cl.add_comm (x y : Cl p sq) : x + y = y + x := Cl.same fun m hm => by rw [Cl.add_co _ _ hm, Cl.add_co _ _ hm, Int.add_comm]
theorem Cl.add_assoc (x y z : Cl p sq) : x + y + z = x + (y + z) := Cl.same fun m hm => by
  rw [Cl.add_co _ _ hm, Cl.add_co _ _ hm, Int.add_emod, Cl.add_co _ _ hm, ← Int.add_emod, Int.add_emod (x.co m), Cl.add_co _ _ hm, ← Int.add_emod, Int.add_assoc]
theorem Cl.sm_sm (k j : Int) (x : Cl p sq) : k * (j * x) = (k * j) * x := Cl.same fun m hm => by
  rw [Cl.sm_co _ _ hm, Int.mul_emod, Cl.sm_co _ _ hm, ← Int.mul_emod, Cl.sm_co _ _ hm, Int.mul_assoc]
theorem Cl.sm_add (k : Int) (x y : Cl p sq) : k * (x + y) = k * x + k * y := Cl.same fun m hm => by
  rw [Cl.sm_co _ _ hm, Int.mul_emod, Cl.add_co _ _ hm, ← Int.mul_emod, Cl.add_co _ _ hm, Int.add_emod, Cl.sm_co _ _ hm, Cl.sm_co _ _ hm, ← Int.add_emod, Int.mul_add]
theorem Cl.add_sm (k j : Int) (x : Cl p sq) : (k + j) * x = k * x + j * x := Cl.same fun m hm => by
  rw [Cl.sm_co _ _ hm, Cl.add_co _ _ hm, Int.add_emod, Cl.sm_co _ _ hm, Cl.sm_co _ _ hm, ← Int.add_emod, Int.add_mul]
theorem Cl.sm_cg {k j : Int} (h : k % p = j % p) (x : Cl p sq) : k * x = j * x := Cl.same fun m hm => by
  rw [Cl.sm_co _ _ hm, Cl.sm_co _ _ hm, Int.mul_emod, h, ← Int.mul_emod]
theorem Cl.neg_sm (x : Cl p sq) : -x = (-1 : Int) * x := Cl.same fun m hm => by rw [Cl.neg_co _ hm, Cl.sm_co _ _ hm, Int.neg_mul, Int.one_mul]
theorem Cl.one_sm (x : Cl p sq) : (1 : Int) * x = x := Cl.same fun m hm => by rw [Cl.sm_co _ _ hm, Int.one_mul]
/-- The numbers of a list, and no more than there are places. -/
def Cl.zero (hp : 0 < p) : Cl p sq := Cl.of hp fun _ => 0
theorem Cl.zero_sm (x : Cl p sq) : (0 : Int) * x = Cl.zero x.pos := Cl.same fun m hm => by
  rw [Cl.sm_co _ _ hm]; unfold Cl.zero; rw [Cl.of_cg _ _ hm, Int.zero_mul]
theorem Cl.add_zero (x : Cl p sq) (hp : 0 < p) : x + Cl.zero hp = x := Cl.same fun m hm => by
  rw [Cl.add_co _ _ hm, Int.add_emod]; unfold Cl.zero; rw [Cl.of_cg _ _ hm, ← Int.add_emod, Int.add_zero]
/-- The multivector 1. -/
def Cl.one (hp : 0 < p) : Cl p sq := Cl.of hp fun m => if m = 0 then 1 else 0
theorem Cl.one_co (hp : 0 < p) {m : Nat} (hm : m < pw sq.length) : (Cl.one hp : Cl p sq).co m % p = (if m = 0 then 1 else 0) % p := Cl.of_cg _ _ hm
theorem swaps_zero_right (a : Nat) : ∀ n, swaps a 0 n = 0 := by
  intro n
  induction n with
  | zero => rfl
  | succ n ih => simp [swaps, ih, bit_zero]
theorem swaps_zero_left (b : Nat) : ∀ n, swaps 0 b n = 0 := by
  intro n
  induction n with
  | zero => rfl
  | succ n ih => simp [swaps, ih, pc_zero]
theorem comZ_zero_left (sq : List Int) (b : Nat) : ∀ n, comZ sq 0 b n = 1 := by
  intro n
  induction n with
  | zero => rfl
  | succ n ih => simp [comZ, ih, bit_zero]
theorem facZ_zero_left (sq : List Int) (b : Nat) : facZ sq 0 b = 1 := by unfold facZ; rw [swaps_zero_left, comZ_zero_left]; rfl
theorem facZ_zero_right (sq : List Int) (a : Nat) : facZ sq a 0 = 1 := by unfold facZ; rw [swaps_zero_right, comZ_symm, comZ_zero_left]; rfl
theorem mulZ_one_left (sq : List Int) (x : Nat → Int) (m : Nat) : mulZ sq (fun m => if m = 0 then 1 else 0) x m = x m := by
  unfold mulZ
  rw [sumTo_one 0 (pw_pos _) fun i _ h => by dsimp only; rw [if_neg h, Int.zero_mul, Int.zero_mul]]
  dsimp only
  rw [if_pos rfl, Nat.zero_xor, facZ_zero_left, Int.one_mul, Int.mul_one]
theorem mulZ_one_right (sq : List Int) (x : Nat → Int) {m : Nat} (hm : m < pw sq.length) : mulZ sq x (fun m => if m = 0 then 1 else 0) m = x m := by
  unfold mulZ
  rw [sumTo_one m hm fun i _ h => by dsimp only; rw [if_neg (fun e => h (by have := (xor_eq_iff i m 0).1 e; rw [this, Nat.xor_zero])), Int.mul_zero, Int.zero_mul]]
  dsimp only
  rw [Nat.xor_self, if_pos rfl, facZ_zero_right, Int.mul_one, Int.mul_one]
theorem Cl.one_mul (hp : 0 < p) (x : Cl p sq) : Cl.one hp * x = x := Cl.same fun m hm => by
  rw [Cl.mul_co _ _ hm, mulZ_cg p sq (fun a ha => Cl.one_co hp ha) (fun _ _ => rfl) hm, mulZ_one_left]
theorem Cl.mul_one (hp : 0 < p) (x : Cl p sq) : x * Cl.one hp = x := Cl.same fun m hm => by
  rw [Cl.mul_co _ _ hm, mulZ_cg p sq (fun _ _ => rfl) (fun a ha => Cl.one_co hp ha) hm, mulZ_one_right sq _ hm]
theorem mulL_co {n : Nat} (hn : sq.length = n) {xs ys : List Int} (hx : xs.length = pw n) (hy : ys.length = pw n) {m : Nat} (hm : m < pw n) : (mulL p sq xs ys).getD m 0 % p = mulZ sq (fun a => xs.getD a 0) (fun a => ys.getD a 0) m % p := by
  subst hn
  unfold mulL
  rw [prodL_getD p sq _ xs ys _ m hx hy hm, Int.emod_emod_of_dvd _ (Int.dvd_refl p)]
  unfold mulZ
  refine sumTo_mod p fun a _ => ?_
  unfold term
  rw [if_pos rfl, Int.mul_emod, fac_facZ, ← Int.mul_emod]
theorem Cl.mul_l (x y : Cl p sq) : (x * y).l = mulL p sq x.l y.l := by
  refine list_ext_getD 0 (by rw [(x * y).len, mulL_len, x.len]) fun m hm => ?_
  rw [(x * y).len] at hm
  have h1 := (x * y).co_mod m
  have h2 := Cl.mul_co x y hm
  have h3 := mulL_co (p := p) rfl x.len y.len hm
  have h4 := (mulL_nums x.pos sq x.l y.l).getD x.pos m
  rw [Int.emod_eq_of_lt h4.1 h4.2] at h3
  rw [h3]
  rw [h1] at h2
  exact h2
theorem Cl.one_l (hp : 2 ≤ p) : (Cl.one (by omega) : Cl p sq).l = bladeL sq.length 0 := by
  refine list_ext_getD 0 (by rw [Cl.len, bladeL_len]) fun m hm => ?_
  rw [Cl.len] at hm
  rw [bladeL_getD _ _ _ hm]
  show (Cl.one _ : Cl p sq).co m = _
  unfold Cl.one
  rw [Cl.of_co _ _ hm]
  by_cases h : m = 0
  · rw [if_pos h, if_pos h.symm, Int.emod_eq_of_lt (by omega) (by omega)]
  · rw [if_neg h, if_neg (fun e => h e.symm), Int.zero_emod]
theorem Cl.sm_l (x : Cl p sq) (k : Int) : (k * x).l = scaleL p x.l k := by
  refine list_ext_getD 0 (by rw [Cl.len, scaleL_len, x.len]) fun m hm => ?_
  rw [Cl.len] at hm
  rw [scaleL_getD _ (by rw [x.len]; exact hm)]
  have h1 := (k * x).co_mod m
  rw [Cl.sm_co _ _ hm, Int.mul_comm] at h1
  exact h1.symm
end
end Go.Proofs.YtggigolkncckoaaGreat
namespace Go.Proofs.YtggigolkncckoaaGreat
open Go.RowKit
set_option maxRecDepth 8000 in
set_option maxHeartbeats 400000 in
theorem clone_any (A : Option Addr) (n c : Nat) (xs : List Int) (w : World) (hn : n ≤ 65536) (ha : Rd w A n (ints xs)) :
    Calls Tryz.prog 345 #[.slice A n c] w fun e w' => ∃ A' c', e = .returned (.slice A' n c') ∧ MkI w w' A' n c' xs := by
  have hxl : xs.length = n := by have := ha.1; rwa [ints_length] at this
  cases A with
  | none =>
    have h0 : n = 0 := by
      rcases Nat.eq_zero_or_pos n with h | h
      · exact h
      · obtain ⟨g, o, e, _⟩ := ha.2 h; cases e
    subst h0
    have hxs : xs = [] := List.eq_nil_of_length_eq_zero hxl
    subst hxs
    clear ha hxl hn
    have hq := fun w : World => Lib.run_eql_slice_nil (P := Tryz.prog) w 24 2 none 0 c 0 0 Tryz.underlying24
    simp only [Option.isNone_none] at hq
    go_enter Tryz.func345, Tryz.ntmps345
    go_wp2
    go_ret
    exact ⟨none, 0, rfl, Mk.nil (Below.refl _ _)⟩
  | some p =>
    have hM0 := Mk.lit (E := 2) (Below.refl w.heap.size w) #[] (by simp)
    obtain ⟨i, hi, h1, h2, h3⟩ := info_parts info_i
    obtain ⟨b1, b2⟩ := bound_of (Nat.le_trans hn (by decide))
    clear b1
    have HB := Lib.hid b2
    clear b2
    have hnews : ∀ (j : Nat) (u : Value), (ints xs)[j]? = some u → (w.alloc (.cells #[] 2)).cell? (p.add j) = some u := fun j u hu => by
      have hj : j < n := by have := (List.getElem?_eq_some_iff.1 hu).1; rw [ints_length] at this; omega
      obtain ⟨g, o, e, hc⟩ := (ha.below ((Below.refl _ w).alloc (Nat.le_refl _) (.cells #[] 2))).2 (by omega)
      injection e with e; subst e
      rw [Addr.add_lit]
      exact hc j u hu
    have Hx := Lib.hid hxl
    have HN := Lib.hid hnews
    have HI := Lib.hid hi
    have H1 := Lib.hid h1
    have H2 := Lib.hid h2
    have H3 := Lib.hid h3
    clear hnews hi h1 h2 h3 hxl
    have hq := fun w : World => Lib.run_eql_slice_nil (P := Tryz.prog) w 24 2 (some p) n c 0 0 Tryz.underlying24
    simp only [Option.isNone_some] at hq
    go_enter Tryz.func345, Tryz.ntmps345
    go_wp2_with (at_builtin; refine wpList_append_own_at (w.alloc (.cells #[] 2)) rfl _ _ 24 rfl w.heap.size 2 i _ 1 8 Tryz.underlying24 HI.out H1.out H2.out H3.out rfl (by omega) (.slice (some ⟨w.heap.size, 0, none⟩) 0 0) 0 [] rfl hM0.2 p n c (ints xs) rfl (by rw [ints_length, Hx.out, Nat.mul_one]) HN.out (by intro u hu; obtain ⟨y, _, rfl⟩ := List.mem_map.1 hu; rfl) (by simp only [maxLen]; omega) (by have := HB.out 8 (by omega); omega) (by simp) ?_; intro v' w' hown hg _ _)
    have hb' : Below w.heap.size w w' := hM0.1.grown hg (by simp) (fun k hk => (hM0.2.lt k hk).1)
    rw [Nat.zero_add, List.nil_append] at hown
    rcases hown.2 with ⟨rfl, h0⟩ | ⟨g, cap, cur, rfl, hr⟩
    · subst h0
      go_ret
      exact ⟨none, 0, rfl, hb', hown⟩
    · go_ret
      exact ⟨_, _, rfl, hb', hown⟩
/-- The blades of the grades that t tells turned to their negatives. -/
def sgnL (p : Int) (t : Nat → Bool) (xs : List Int) : List Int := tab xs.length fun i => if t (pc i) then (-(xs.getD i 0)) % p else xs.getD i 0
theorem sgnL_len (p : Int) (t : Nat → Bool) (xs : List Int) : (sgnL p t xs).length = xs.length := tab_len _ _
theorem sgnL_nums {p : Int} (hp : 0 < p) (t : Nat → Bool) {xs : List Int} (h : NumsL p xs) : NumsL p (sgnL p t xs) := NumsL.tab fun i _ => by
  split
  · exact ⟨Int.emod_nonneg _ (by omega), Int.emod_lt_of_pos _ hp⟩
  · exact h.getD hp i
theorem sgnL_getD {p : Int} {t : Nat → Bool} {xs : List Int} {i : Nat} (h : i < xs.length) : (sgnL p t xs).getD i 0 = if t (pc i) then (-(xs.getD i 0)) % p else xs.getD i 0 := tab_getD h 0
/-- The first k places of f, then those of xs. -/
def mixL (f : Nat → Int) (xs : List Int) (k : Nat) : List Int := tab xs.length fun i => if i < k then f i else xs.getD i 0
theorem mixL_len (f : Nat → Int) (xs : List Int) (k : Nat) : (mixL f xs k).length = xs.length := tab_len _ _
theorem mixL_zero (f : Nat → Int) (xs : List Int) : mixL f xs 0 = xs := by
  refine Eq.trans (tab_congr fun i _ => ?_) (eq_tab 0 rfl).symm
  rw [if_neg (by omega)]
theorem mixL_all (f : Nat → Int) (xs : List Int) : mixL f xs xs.length = tab xs.length f := tab_congr fun _i hi => if_pos hi
theorem mixL_succ (f : Nat → Int) (xs : List Int) (k : Nat) (hk : k < xs.length) : mixL f xs (k + 1) = (mixL f xs k).set k (f k) := by
  apply list_ext_getD 0 (by rw [List.length_set, mixL_len, mixL_len])
  intro i hi
  rw [mixL_len] at hi
  rw [getD_set, mixL_len]
  unfold mixL
  rw [tab_getD hi, tab_getD hi]
  by_cases h : k = i
  · subst h; rw [if_pos (by omega), if_pos ⟨rfl, hk⟩]
  · rw [if_neg (c := k = i ∧ _) (fun hh => h hh.1)]
    by_cases h2 : i < k
    · rw [if_pos (by omega), if_pos h2]
    · rw [if_neg (by omega), if_neg h2]
theorem mixL_skip (f : Nat → Int) (xs : List Int) (k : Nat) (hf : f k = xs.getD k 0) : mixL f xs (k + 1) = mixL f xs k := by
  refine tab_congr fun i _ => ?_
  by_cases h : i < k
  · rw [if_pos (by omega), if_pos h]
  · by_cases h2 : i = k
    · subst h2; rw [if_pos (by omega), if_neg (by omega), hf]
    · rw [if_neg (by omega), if_neg h]
set_option maxHeartbeats 1600000 in
theorem signed_any (f : FuncId) (t : Nat → Bool) (hf : ∀ (k : Nat) (w : World), k ≤ 6 → Calls Tryz.prog f #[.int .i64 k] w fun e w' => e = .returned (.bool (t k)) ∧ w = w') (hcf : ∀ (args : Array Value) (w : World), (callFunc f args).run Tryz.prog w = .ok (.enter f args) w)
    (P : Int) (A : Option Addr) (n c : Nat) (X : Option Addr) (m cx : Nat) (xs : List Int) (w : World) (hp : 2 ≤ P) (hp2 : P ≤ 13) (hm : m ≤ 64) (hx : Rd w X m (ints xs)) (hxs : NumsL P xs) :
    Calls Tryz.prog 279 #[.agg #[.int .i64 P, .slice A n c], .slice X m cx, .func (.func f) #[] #[]] w fun e w' => ∃ A' c', e = .returned (.slice A' m c') ∧ MkI w w' A' m c' (sgnL P t xs) := by
  have hxl : xs.length = m := by have := hx.1; rwa [ints_length] at this
  have hB0 : Below w.heap.size w (w.alloc (.cells #[.int .i64 P, .slice A n c] 26)) := (Below.refl _ w).alloc (Nat.le_refl _) _
  have k0 : Blk (w.alloc (.cells #[.int .i64 P, .slice A n c] 26)) w.heap.size 26 #[.int .i64 P, .slice A n c] := Blk.new _ _ _
  have HX := Lib.hid hxl; clear hxl
  go_enter Tryz.func279, Tryz.ntmps279
  go_wp2_with fail
  refine (clone_any _ _ _ _ _ (by omega) (hx.below hB0)).mono ?_
  rintro e w1 ⟨A', c', rfl, hM1⟩
  have k1 := k0.below hM1.b k0.lt
  have hM := hM1.after hB0
  have hl0 : MkI w w1 A' m c' (mixL (fun i => if t (pc i) then (-(xs.getD i 0)) % P else xs.getD i 0) xs 0) := by rw [mixL_zero]; exact hM
  clear k0 hM1 hM hB0
  go_wp2_with fail
  go_loopw [8, 9, 14] (fun _ _ i wr => ∃ k : Nat, k ≤ m ∧ i = .int .i64 k ∧ MkI w wr A' m c' (mixL (fun i => if t (pc i) then (-(xs.getD i 0)) % P else xs.getD i 0) xs k) ∧ Blk wr w.heap.size 26 #[.int .i64 P, .slice A n c]) (fun _ _ i _ => m - (intOf i).toNat)
  case atStart => exact ⟨0, by omega, rfl, hl0, k1⟩
  case round =>
    obtain ⟨k, hk, rfl, hM, hk2⟩ := hrel
    clear hl0 k1
    by_cases hlt : k < m
    · obtain ⟨gx, ox, rfl, hxk, hcx⟩ := (hx.below hM.b).int hlt
      obtain ⟨x1, x2⟩ := hxs _ (List.getElem_mem hxk)
      have hpk := pc_le 6 k (by omega)
      rcases hM.2.form with ⟨_, h0⟩ | ⟨g, rfl, hg, hgl⟩
      · omega
      have HNE : Hid (g ≠ w.heap.size) := Lib.hid (fun e => by
        have hne := hM.2.ne_blk hk2 (by decide)
        simp [Value.ownBlock, e] at hne)
      cases ht : t (pc k)
      · have HM := Lib.hid (mixL_skip (fun i => if t (pc i) then (-(xs.getD i 0)) % P else xs.getD i 0) xs k (by simp [ht]) ▸ hM)
        have HT := Lib.hid ht
        clear hM ht
        go_wp2_with (go_at_call 211; refine (gradeOf_any k _ (by omega)).mono ?_; rintro e w' ⟨rfl, rfl⟩)
        refine (hf (pc k) _ hpk).mono ?_
        rintro e w' ⟨rfl, rfl⟩
        rw [HT.out]
        go_wp2
        go_roundw
        case rel => exact ⟨k + 1, by omega, by go_num, HM.out, hk2⟩
        case measure => simp [intOf]; omega
      · have hset := (hM.set k (.int .i64 ((-xs[k]) % P))).1
        have hfk : (if t (pc k) = true then (-(xs.getD k 0)) % P else xs.getD k 0) = (-xs[k]) % P := by rw [if_pos ht, getD_of_lt 0 hxk]
        rw [ints_set] at hset
        have HS : Hid (MkI w (wr.setCell ⟨g, k, none⟩ (.int .i64 ((-xs[k]) % P))) (some ⟨g, 0, none⟩) m c' (mixL (fun i => if t (pc i) then (-(xs.getD i 0)) % P else xs.getD i 0) xs (k + 1))) := Lib.hid (by rw [mixL_succ _ _ _ (by rw [HX.out]; exact hlt), hfk]; exact hset)
        have hAt : Hid (∀ w', MkI w w' (some ⟨g, 0, none⟩) m c' (mixL (fun i => if t (pc i) then (-(xs.getD i 0)) % P else xs.getD i 0) xs k) → w'.cell? ⟨g, k, none⟩ = some (.int .i64 ((mixL (fun i => if t (pc i) then (-(xs.getD i 0)) % P else xs.getD i 0) xs k).getD k 0)) ∧ w'.frozen? ⟨g, k, none⟩ = false) :=
          Lib.hid (fun w' h => mkI_at h hlt)
        have HT := Lib.hid ht
        have HM := Lib.hid hM
        clear hset hfk ht hM
        go_wp2_with (go_at_call 211; refine (gradeOf_any k _ (by omega)).mono ?_; rintro e w' ⟨rfl, rfl⟩)
        refine (hf (pc k) _ hpk).mono ?_
        rintro e w' ⟨rfl, rfl⟩
        rw [HT.out]
        obtain ⟨q0, q1⟩ := hk2.two
        go_wp2_with fail
        refine (field_any _ _ _ _ _).mono ?_
        rintro e w2 ⟨rfl, hb2⟩
        have hM2 := HM.out.below hb2
        have hk3 := hk2.below hb2 hk2.lt
        obtain ⟨hoc, hof⟩ := hAt.out _ hM2
        obtain ⟨v0, hv0⟩ : ∃ v, v = (mixL (fun i => if t (pc i) then (-(xs.getD i 0)) % P else xs.getD i 0) xs k).getD k 0 := ⟨_, rfl⟩
        rw [← hv0] at hoc
        have hset := (hM2.set k (.int .i64 ((-xs[k]) % P))).1
        have hfk : (if t (pc k) = true then (-(xs.getD k 0)) % P else xs.getD k 0) = (-xs[k]) % P := by rw [if_pos HT.out, getD_of_lt 0 hxk]
        rw [ints_set] at hset
        have HS2 : Hid (MkI w (w2.setCell ⟨g, k, none⟩ (.int .i64 ((-xs[k]) % P))) (some ⟨g, 0, none⟩) m c' (mixL (fun i => if t (pc i) then (-(xs.getD i 0)) % P else xs.getD i 0) xs (k + 1))) := Lib.hid (by rw [mixL_succ _ _ _ (by rw [HX.out]; exact hlt), hfk]; exact hset)
        have HKN := Lib.hid (hk3.far (p := ⟨g, k, none⟩) HNE.out.symm (.int .i64 ((-xs[k]) % P)))
        clear hv0 HS HM hM2 hk3 hk2 q0 q1 hset hfk
        go_wp2_with (go_at_call 200; refine (num_any _ (-xs[k]) _ (by omega) hp2 (by omega) (by omega)).mono ?_; rintro e w' ⟨rfl, rfl⟩)
        go_roundw
        case rel => exact ⟨k + 1, by omega, by go_num, HS2.out, HKN.out⟩
        case measure => simp [intOf]; omega
    · obtain rfl : k = m := by omega
      have hM2 := hM
      rw [← HX.out, mixL_all, HX.out] at hM2
      go_wp2
      go_ret
      exact ⟨_, _, rfl, by unfold sgnL; rw [HX.out]; exact hM2⟩
def revT (k : Nat) : Bool := k * (k - 1) / 2 % 2 == 1
def oddT (k : Nat) : Bool := k % 2 == 1
theorem rev_bool (k : Nat) (hk : k ≤ 1000) : ((k : Int) * ((k : Int) - 1) / 2 % 2 == 1) = revT k := by
  unfold revT
  rw [Bool.eq_iff_iff]
  simp only [beq_iff_eq]
  rcases Nat.eq_zero_or_pos k with h | h
  · subst h; simp
  · have e : (k : Int) * ((k : Int) - 1) = ((k * (k - 1) : Nat) : Int) := by rw [Int.natCast_mul]; congr 1; omega
    rw [e]; omega
set_option maxHeartbeats 400000 in
theorem reverse1_tells (k : Nat) (w : World) (hk : k ≤ 6) : Calls Tryz.prog 280 #[.int .i64 k] w fun e w' => e = .returned (.bool (revT k)) ∧ w = w' := by
  have hm : 0 ≤ (k : Int) * ((k : Int) - 1) ∧ (k : Int) * ((k : Int) - 1) ≤ 1000000 := by
    rcases Nat.eq_zero_or_pos k with h | h
    · subst h; simp
    · have := mul_small (show (0 : Int) ≤ k by omega) (show (k : Int) ≤ 1000 by omega) (show (0 : Int) ≤ (k : Int) - 1 by omega) (show (k : Int) - 1 ≤ 1000 by omega)
      omega
  obtain ⟨m1, m2⟩ := hm
  go_enter Tryz.func280, Tryz.ntmps280
  go_wp2
  go_ret
  exact ⟨ret_bool (rev_bool k (by omega)), rfl⟩
set_option maxHeartbeats 400000 in
theorem involute1_tells (k : Nat) (w : World) (hk : k ≤ 6) : Calls Tryz.prog 281 #[.int .i64 k] w fun e w' => e = .returned (.bool (oddT k)) ∧ w = w' := by
  go_enter Tryz.func281, Tryz.ntmps281
  go_wp2
  go_ret
  refine ⟨ret_bool ?_, rfl⟩
  unfold oddT
  rw [Bool.eq_iff_iff]
  simp only [beq_iff_eq]
  omega
def revL (p : Int) (xs : List Int) : List Int := sgnL p revT xs
def invoL (p : Int) (xs : List Int) : List Int := sgnL p oddT xs
set_option maxRecDepth 8000 in
set_option maxHeartbeats 400000 in
theorem reverse_any (P : Int) (A : Option Addr) (n c : Nat) (X : Option Addr) (m cx : Nat) (xs : List Int) (w : World) (hp : 2 ≤ P) (hp2 : P ≤ 13) (hm : m ≤ 64) (hx : Rd w X m (ints xs)) (hxs : NumsL P xs) :
    Calls Tryz.prog 133 #[.agg #[.int .i64 P, .slice A n c], .slice X m cx] w fun e w' => ∃ A' c', e = .returned (.slice A' m c') ∧ MkI w w' A' m c' (revL P xs) := by
  have hB0 : Below w.heap.size w (w.alloc (.cells #[.int .i64 P, .slice A n c] 26)) := (Below.refl _ w).alloc (Nat.le_refl _) _
  have hcall := signed_any 280 revT reverse1_tells (fun _ _ => rfl) P A n c X m cx xs _ hp hp2 hm (hx.below hB0) hxs
  go_enter Tryz.func133, Tryz.ntmps133
  go_wp2_with (go_at_call 279; refine hcall.mono ?_; rintro e w1 ⟨A', c', rfl, hM⟩)
  go_ret
  exact ⟨_, _, rfl, hM.after hB0⟩
set_option maxRecDepth 8000 in
set_option maxHeartbeats 400000 in
theorem involute_any (P : Int) (A : Option Addr) (n c : Nat) (X : Option Addr) (m cx : Nat) (xs : List Int) (w : World) (hp : 2 ≤ P) (hp2 : P ≤ 13) (hm : m ≤ 64) (hx : Rd w X m (ints xs)) (hxs : NumsL P xs) :
    Calls Tryz.prog 134 #[.agg #[.int .i64 P, .slice A n c], .slice X m cx] w fun e w' => ∃ A' c', e = .returned (.slice A' m c') ∧ MkI w w' A' m c' (invoL P xs) := by
  have hB0 : Below w.heap.size w (w.alloc (.cells #[.int .i64 P, .slice A n c] 26)) := (Below.refl _ w).alloc (Nat.le_refl _) _
  have hcall := signed_any 281 oddT involute1_tells (fun _ _ => rfl) P A n c X m cx xs _ hp hp2 hm (hx.below hB0) hxs
  go_enter Tryz.func134, Tryz.ntmps134
  go_wp2_with (go_at_call 279; refine hcall.mono ?_; rintro e w1 ⟨A', c', rfl, hM⟩)
  go_ret
  exact ⟨_, _, rfl, hM.after hB0⟩
end Go.Proofs.YtggigolkncckoaaGreat
namespace Go.Proofs.YtggigolkncckoaaGreat
open Go.RowKit
/-- The spinor norm. -/
def nrmL (P : Int) (sq xs : List Int) : Int := (mulL P sq xs (revL P xs)).getD 0 0
theorem nrmL_small {P : Int} (hp : 2 ≤ P) (sq xs : List Int) : 0 ≤ nrmL P sq xs ∧ nrmL P sq xs < P := (mulL_nums (by omega) sq xs _).getD (by omega) 0
/-- The inverse of a versor. -/
def vinvL (P : Int) (sq xs : List Int) : List Int := scaleL P (revL P xs) (invF P (nrmL P sq xs))
theorem vinvL_nums {P : Int} (hp : 2 ≤ P) (sq xs : List Int) : NumsL P (vinvL P sq xs) := scaleL_nums (by omega) _ _
/-- The sandwich of a versor. -/
def sandL (P : Int) (sq : List Int) (n : Nat) (xs v : List Int) : List Int := partL n (mulL P sq (mulL P sq (invoL P xs) (vecTo n v n)) (vinvL P sq xs))
set_option maxHeartbeats 1600000 in
set_option maxRecDepth 8000 in
theorem spinorNorm_any (P : Int) (A : Option Addr) (n c : Nat) (sq : List Int) (X : Option Addr) (cx : Nat) (xs : List Int) (w : World) (hp : 2 ≤ P) (hp2 : P ≤ 13) (hn : n ≤ 6) (ha : Rd w A n (ints sq)) (hs : NumsL P sq) (hx : Rd w X (pw n) (ints xs)) (hxs : NumsL P xs) (hcx : pw n ≤ cx) :
    Calls Tryz.prog 171 #[.agg #[.int .i64 P, .slice A n c], .slice X (pw n) cx] w fun e w' => e = .returned (.int .i64 (nrmL P sq xs)) ∧ Below w.heap.size w w' := by
  have hB0 : Below w.heap.size w (w.alloc (.cells #[.int .i64 P, .slice A n c] 26)) := (Below.refl _ _).alloc (Nat.le_refl _) _
  have k0 : Blk (w.alloc (.cells #[.int .i64 P, .slice A n c] 26)) w.heap.size 26 #[.int .i64 P, .slice A n c] := Blk.new _ _ _
  have HPW : pw n ≤ 65536 := Nat.le_trans (pw_le (show n ≤ 10 by omega)) (by decide)
  have HPW64 : pw n ≤ 64 := pw_le hn
  go_enter Tryz.func171, Tryz.ntmps171
  go_wp2
  refine wp_obs 10 [[], [], [], [], [2, 3], [1, 2, 3, 4], [0, 1, 2, 3, 4, 5], [0, 1, 2, 3, 4, 5, 6], [0, 1, 2, 3, 4, 5, 6, 7], [0, 1, 2, 3, 4, 5, 6, 7, 8]] [VIs (.agg #[.int .i64 P, .slice A n c]), VIs (.slice X (pw n) cx), VIs (.agg #[.int .i64 P, .slice A n c]), VIs (.slice X (pw n) cx), VSl w (pw n) (revL P xs), VRow 2 [xs, (revL P xs)], VSl w (pw n) (timesL P sq n [xs, (revL P xs)]), VCell (.int .i64 ((timesL P sq n [xs, (revL P xs)]).getD 0 0)), VIs (.int .i64 ((timesL P sq n [xs, (revL P xs)]).getD 0 0)), VIs (.int .i64 ((timesL P sq n [xs, (revL P xs)]).getD 0 0))] (fun w' => Blk w' w.heap.size 26 #[.int .i64 P, .slice A n c] ∧ Below w.heap.size w w') (by kernel_rfl) (by kernel_rfl) (fun _ _ h hb => ⟨h.1.below hb h.1.lt, h.2.trans (hb.mono h.2.size)⟩) (⟨k0.drew, hB0.drew⟩) (fun x => ?_)
  refine obs_step (Eq.trans (by simp only [List.getElem?_toArray, List.getElem?_cons_zero]; exact rfl) rfl) rfl (fun w' hS hV K hK => ?_) ?_
  · obtain ⟨q0, q1⟩ := hS.1.two
    go_simp
    exact hK.out _ _ _ rfl rfl rfl (Below.refl _ _)
  simp only [List.setIfInBounds_toArray, List.set_cons_zero, List.set_cons_succ]
  refine obs_step (Eq.trans (by simp only [List.getElem?_toArray, List.getElem?_cons_succ, List.getElem?_cons_zero]; exact rfl) rfl) rfl (fun w' hS hV K hK => ?_) ?_
  · obtain ⟨q0, q1⟩ := hS.1.two
    go_simp
    exact hK.out _ _ _ rfl rfl rfl (Below.refl _ _)
  simp only [List.setIfInBounds_toArray, List.set_cons_zero, List.set_cons_succ]
  refine obs_step (Eq.trans (by simp only [List.getElem?_toArray, List.getElem?_cons_succ, List.getElem?_cons_zero]; exact rfl) rfl) rfl (fun w' hS hV K hK => ?_) ?_
  · obtain ⟨q0, q1⟩ := hS.1.two
    go_simp
    exact hK.out _ _ _ rfl rfl rfl (Below.refl _ _)
  simp only [List.setIfInBounds_toArray, List.set_cons_zero, List.set_cons_succ]
  refine obs_step (Eq.trans (by simp only [List.getElem?_toArray, List.getElem?_cons_succ, List.getElem?_cons_zero]; exact rfl) rfl) rfl (fun w' hS hV K hK => ?_) ?_
  · obtain ⟨q0, q1⟩ := hS.1.two
    go_simp
    exact hK.out _ _ _ rfl rfl rfl (Below.refl _ _)
  simp only [List.setIfInBounds_toArray, List.set_cons_zero, List.set_cons_succ]
  refine obs_step (Eq.trans (by simp only [List.getElem?_toArray, List.getElem?_cons_succ, List.getElem?_cons_zero]; exact rfl) rfl) rfl (fun w' hS hV K hK => ?_) ?_
  · simp only [List.mem_cons, List.not_mem_nil, or_false, forall_eq_or_imp, forall_eq, List.getD_cons_succ, List.getD_cons_zero, VIs, VSl, VRow, VAny, VCell] at hV
    obtain ⟨e2, e3⟩ := hV
    obtain ⟨q0, q1⟩ := hS.1.two
    go_simp
    refine (reverse_any P A n c _ (pw n) _ xs _ hp hp2 HPW64 (hx.below hS.2) hxs).mono ?_
    rintro e w1 ⟨A2, c2, rfl, hM⟩
    exact hK.out _ _ _ rfl rfl ⟨_, _, rfl, hM.after hS.2⟩ hM.b
  simp only [List.setIfInBounds_toArray, List.set_cons_zero, List.set_cons_succ]
  refine obs_step (Eq.trans (by simp only [List.getElem?_toArray, List.getElem?_cons_succ, List.getElem?_cons_zero]; exact rfl) rfl) rfl (fun w' hS hV K hK => ?_) ?_
  · simp only [List.mem_cons, List.not_mem_nil, or_false, forall_eq_or_imp, forall_eq, List.getD_cons_succ, List.getD_cons_zero, VIs, VSl, VRow, VAny, VCell] at hV
    obtain ⟨e1, e2, e3, ⟨A4, c4, e4, h4⟩⟩ := hV
    obtain ⟨q0, q1⟩ := hS.1.two
    go_simp
    exact hK.out _ _ _ rfl rfl ⟨_, _, rfl, rdII_two (Blk.new _ _ _) (Rd.below ((hx.below hS.2)) ((Below.refl _ _).alloc (Nat.le_refl _) _)) (Rd.below (h4.rd) ((Below.refl _ _).alloc (Nat.le_refl _) _)) (hcx) (h4.2.cap)⟩ ((Below.refl _ _).alloc (Nat.le_refl _) _)
  simp only [List.setIfInBounds_toArray, List.set_cons_zero, List.set_cons_succ]
  refine obs_step (Eq.trans (by simp only [List.getElem?_toArray, List.getElem?_cons_succ, List.getElem?_cons_zero]; exact rfl) rfl) rfl (fun w' hS hV K hK => ?_) ?_
  · simp only [List.mem_cons, List.not_mem_nil, or_false, forall_eq_or_imp, forall_eq, List.getD_cons_succ, List.getD_cons_zero, VIs, VSl, VRow, VAny, VCell] at hV
    obtain ⟨e0, e1, e2, e3, ⟨A4, c4, e4, h4⟩, ⟨A5, c5, e5, h5⟩⟩ := hV
    obtain ⟨q0, q1⟩ := hS.1.two
    go_simp
    refine (times_any P A n c sq _ 2 _ [xs, (revL P xs)] _ hp hp2 hn (by omega) (ha.below hS.2) hs h5 (all_two ⟨hxs, Rd.lenI ((hx.below hS.2))⟩ ⟨(sgnL_nums (by omega) revT hxs), Rd.lenI (h4.rd)⟩)).mono ?_
    rintro e w1 ⟨A2, c2, rfl, hM⟩
    exact hK.out _ _ _ rfl rfl ⟨_, _, rfl, hM.after hS.2⟩ hM.b
  simp only [List.setIfInBounds_toArray, List.set_cons_zero, List.set_cons_succ]
  refine obs_step (Eq.trans (by simp only [List.getElem?_toArray, List.getElem?_cons_succ, List.getElem?_cons_zero]; exact rfl) rfl) rfl (fun w' hS hV K hK => ?_) ?_
  · simp only [List.mem_cons, List.not_mem_nil, or_false, forall_eq_or_imp, forall_eq, List.getD_cons_succ, List.getD_cons_zero, VIs, VSl, VRow, VAny, VCell] at hV
    obtain ⟨e0, e1, e2, e3, ⟨A4, c4, e4, h4⟩, ⟨A5, c5, e5, h5⟩, ⟨A6, c6, e6, h6⟩⟩ := hV
    obtain ⟨q0, q1⟩ := hS.1.two
    rcases h6.2.form with ⟨_, hz⟩ | ⟨g6, hg6, _, _⟩
    · exact absurd hz (by have := pw_pos n; omega)
    subst hg6
    obtain ⟨hcell, _⟩ := mkI_at h6 (pw_pos n)
    have hposI : 0 < pw n := pw_pos n
    go_simp
    exact hK.out _ _ _ rfl rfl ⟨_, rfl, hcell⟩ (Below.refl _ _)
  simp only [List.setIfInBounds_toArray, List.set_cons_zero, List.set_cons_succ]
  refine obs_step (Eq.trans (by simp only [List.getElem?_toArray, List.getElem?_cons_succ, List.getElem?_cons_zero]; exact rfl) rfl) rfl (fun w' hS hV K hK => ?_) ?_
  · simp only [List.mem_cons, List.not_mem_nil, or_false, forall_eq_or_imp, forall_eq, List.getD_cons_succ, List.getD_cons_zero, VIs, VSl, VRow, VAny, VCell] at hV
    obtain ⟨e0, e1, e2, e3, ⟨A4, c4, e4, h4⟩, ⟨A5, c5, e5, h5⟩, ⟨A6, c6, e6, h6⟩, ⟨p7, e7, h7⟩⟩ := hV
    obtain ⟨q0, q1⟩ := hS.1.two
    go_simp
    exact hK.out _ _ _ rfl rfl rfl (Below.refl _ _)
  simp only [List.setIfInBounds_toArray, List.set_cons_zero, List.set_cons_succ]
  refine obs_step (Eq.trans (by simp only [List.getElem?_toArray, List.getElem?_cons_succ, List.getElem?_cons_zero]; exact rfl) rfl) rfl (fun w' hS hV K hK => ?_) ?_
  · simp only [List.mem_cons, List.not_mem_nil, or_false, forall_eq_or_imp, forall_eq, List.getD_cons_succ, List.getD_cons_zero, VIs, VSl, VRow, VAny, VCell] at hV
    obtain ⟨e0, e1, e2, e3, ⟨A4, c4, e4, h4⟩, ⟨A5, c5, e5, h5⟩, ⟨A6, c6, e6, h6⟩, ⟨p7, e7, h7⟩, e8⟩ := hV
    obtain ⟨q0, q1⟩ := hS.1.two
    go_simp
    exact hK.out _ _ _ rfl rfl rfl (Below.refl _ _)
  simp only [List.setIfInBounds_toArray, List.set_cons_zero, List.set_cons_succ]
  refine fun w' hS hV => ?_
  have hV := fun i hi => hV i (List.mem_range.1 hi)
  simp only [List.range, List.range.loop, List.mem_cons, List.not_mem_nil, or_false, forall_eq_or_imp, forall_eq, List.getD_cons_succ, List.getD_cons_zero, VIs, VSl, VRow, VAny, VCell] at hV
  obtain ⟨e0, e1, e2, e3, ⟨A4, c4, e4, h4⟩, ⟨A5, c5, e5, h5⟩, ⟨A6, c6, e6, h6⟩, ⟨p7, e7, h7⟩, e8, e9⟩ := hV
  simp only [e0, e1, e2, e3, e4, e5, e6, e7, e8, e9]
  clear e0 e1 e2 e3 e4 e5 e6 e7 e8 e9
  refine wpAny_done (by kernel_rfl) ?_ _
  go_wp2
  go_ret
  exact ⟨ret_int (by unfold nrmL; rw [timesL_two P sq n _ _ hx.lenI hxs, List.getD_eq_getElem?_getD]), hS.2⟩
set_option maxHeartbeats 1600000 in
set_option maxRecDepth 8000 in
theorem versorInverse_any (P : Int) (A : Option Addr) (n c : Nat) (sq : List Int) (X : Option Addr) (cx : Nat) (xs : List Int) (w : World) (hp : 2 ≤ P) (hp2 : P ≤ 13) (hn : n ≤ 6) (ha : Rd w A n (ints sq)) (hs : NumsL P sq) (hx : Rd w X (pw n) (ints xs)) (hxs : NumsL P xs) (hcx : pw n ≤ cx) :
    Calls Tryz.prog 172 #[.agg #[.int .i64 P, .slice A n c], .slice X (pw n) cx] w fun e w' => ∃ A' c', e = .returned (.slice A' (pw n) c') ∧ MkI w w' A' (pw n) c' (vinvL P sq xs) := by
  have hB0 : Below w.heap.size w (w.alloc (.cells #[.int .i64 P, .slice A n c] 26)) := (Below.refl _ _).alloc (Nat.le_refl _) _
  have k0 : Blk (w.alloc (.cells #[.int .i64 P, .slice A n c] 26)) w.heap.size 26 #[.int .i64 P, .slice A n c] := Blk.new _ _ _
  have HPW : pw n ≤ 65536 := Nat.le_trans (pw_le (show n ≤ 10 by omega)) (by decide)
  have HPW64 : pw n ≤ 64 := pw_le hn
  go_enter Tryz.func172, Tryz.ntmps172
  go_wp2
  refine wp_obs 13 [[], [0], [], [], [2, 3], [], [5], [], [], [7, 8], [5, 6, 7, 8, 9], [0, 1, 2, 3, 4, 5, 6, 7, 8, 9, 10], [0, 1, 2, 3, 4, 5, 6, 7, 8, 9, 10, 11]] [VIs (.agg #[.int .i64 P, .slice A n c]), VIs (.int .i64 P), VIs (.agg #[.int .i64 P, .slice A n c]), VIs (.slice X (pw n) cx), VSl w (pw n) (revL P xs), VIs (.agg #[.int .i64 P, .slice A n c]), VIs (.int .i64 P), VIs (.agg #[.int .i64 P, .slice A n c]), VIs (.slice X (pw n) cx), VIs (.int .i64 (nrmL P sq xs)), VIs (.int .i64 (invF P (nrmL P sq xs))), VSl w (pw n) (scaleL P (revL P xs) (invF P (nrmL P sq xs))), VSl w (pw n) (scaleL P (revL P xs) (invF P (nrmL P sq xs)))] (fun w' => Blk w' w.heap.size 26 #[.int .i64 P, .slice A n c] ∧ Below w.heap.size w w') (by kernel_rfl) (by kernel_rfl) (fun _ _ h hb => ⟨h.1.below hb h.1.lt, h.2.trans (hb.mono h.2.size)⟩) (⟨k0.drew, hB0.drew⟩) (fun x => ?_)
  refine obs_step (Eq.trans (by simp only [List.getElem?_toArray, List.getElem?_cons_zero]; exact rfl) rfl) rfl (fun w' hS hV K hK => ?_) ?_
  · obtain ⟨q0, q1⟩ := hS.1.two
    go_simp
    exact hK.out _ _ _ rfl rfl rfl (Below.refl _ _)
  simp only [List.setIfInBounds_toArray, List.set_cons_zero, List.set_cons_succ]
  refine obs_step (Eq.trans (by simp only [List.getElem?_toArray, List.getElem?_cons_succ, List.getElem?_cons_zero]; exact rfl) rfl) rfl (fun w' hS hV K hK => ?_) ?_
  · simp only [List.mem_cons, List.not_mem_nil, or_false, forall_eq, List.getD_cons_succ, List.getD_cons_zero, VIs, VSl, VAny] at hV
    obtain e0 := hV
    obtain ⟨q0, q1⟩ := hS.1.two
    go_simp
    refine (field_any _ _ _ _ _).mono ?_
    rintro e w1 ⟨rfl, hb⟩
    exact hK.out _ _ _ rfl rfl rfl hb
  simp only [List.setIfInBounds_toArray, List.set_cons_zero, List.set_cons_succ]
  refine obs_step (Eq.trans (by simp only [List.getElem?_toArray, List.getElem?_cons_succ, List.getElem?_cons_zero]; exact rfl) rfl) rfl (fun w' hS hV K hK => ?_) ?_
  · obtain ⟨q0, q1⟩ := hS.1.two
    go_simp
    exact hK.out _ _ _ rfl rfl rfl (Below.refl _ _)
  simp only [List.setIfInBounds_toArray, List.set_cons_zero, List.set_cons_succ]
  refine obs_step (Eq.trans (by simp only [List.getElem?_toArray, List.getElem?_cons_succ, List.getElem?_cons_zero]; exact rfl) rfl) rfl (fun w' hS hV K hK => ?_) ?_
  · obtain ⟨q0, q1⟩ := hS.1.two
    go_simp
    exact hK.out _ _ _ rfl rfl rfl (Below.refl _ _)
  simp only [List.setIfInBounds_toArray, List.set_cons_zero, List.set_cons_succ]
  refine obs_step (Eq.trans (by simp only [List.getElem?_toArray, List.getElem?_cons_succ, List.getElem?_cons_zero]; exact rfl) rfl) rfl (fun w' hS hV K hK => ?_) ?_
  · simp only [List.mem_cons, List.not_mem_nil, or_false, forall_eq_or_imp, forall_eq, List.getD_cons_succ, List.getD_cons_zero, VIs, VSl, VAny] at hV
    obtain ⟨e2, e3⟩ := hV
    obtain ⟨q0, q1⟩ := hS.1.two
    go_simp
    refine (reverse_any P A n c _ (pw n) _ xs _ hp hp2 HPW64 (hx.below hS.2) hxs).mono ?_
    rintro e w1 ⟨A2, c2, rfl, hM⟩
    exact hK.out _ _ _ rfl rfl ⟨_, _, rfl, hM.after hS.2⟩ hM.b
  simp only [List.setIfInBounds_toArray, List.set_cons_zero, List.set_cons_succ]
  refine obs_step (Eq.trans (by simp only [List.getElem?_toArray, List.getElem?_cons_succ, List.getElem?_cons_zero]; exact rfl) rfl) rfl (fun w' hS hV K hK => ?_) ?_
  · obtain ⟨q0, q1⟩ := hS.1.two
    go_simp
    exact hK.out _ _ _ rfl rfl rfl (Below.refl _ _)
  simp only [List.setIfInBounds_toArray, List.set_cons_zero, List.set_cons_succ]
  refine obs_step (Eq.trans (by simp only [List.getElem?_toArray, List.getElem?_cons_succ, List.getElem?_cons_zero]; exact rfl) rfl) rfl (fun w' hS hV K hK => ?_) ?_
  · simp only [List.mem_cons, List.not_mem_nil, or_false, forall_eq, List.getD_cons_succ, List.getD_cons_zero, VIs, VSl, VAny] at hV
    obtain e5 := hV
    obtain ⟨q0, q1⟩ := hS.1.two
    go_simp
    refine (field_any _ _ _ _ _).mono ?_
    rintro e w1 ⟨rfl, hb⟩
    exact hK.out _ _ _ rfl rfl rfl hb
  simp only [List.setIfInBounds_toArray, List.set_cons_zero, List.set_cons_succ]
  refine obs_step (Eq.trans (by simp only [List.getElem?_toArray, List.getElem?_cons_succ, List.getElem?_cons_zero]; exact rfl) rfl) rfl (fun w' hS hV K hK => ?_) ?_
  · obtain ⟨q0, q1⟩ := hS.1.two
    go_simp
    exact hK.out _ _ _ rfl rfl rfl (Below.refl _ _)
  simp only [List.setIfInBounds_toArray, List.set_cons_zero, List.set_cons_succ]
  refine obs_step (Eq.trans (by simp only [List.getElem?_toArray, List.getElem?_cons_succ, List.getElem?_cons_zero]; exact rfl) rfl) rfl (fun w' hS hV K hK => ?_) ?_
  · obtain ⟨q0, q1⟩ := hS.1.two
    go_simp
    exact hK.out _ _ _ rfl rfl rfl (Below.refl _ _)
  simp only [List.setIfInBounds_toArray, List.set_cons_zero, List.set_cons_succ]
  refine obs_step (Eq.trans (by simp only [List.getElem?_toArray, List.getElem?_cons_succ, List.getElem?_cons_zero]; exact rfl) rfl) rfl (fun w' hS hV K hK => ?_) ?_
  · simp only [List.mem_cons, List.not_mem_nil, or_false, forall_eq_or_imp, forall_eq, List.getD_cons_succ, List.getD_cons_zero, VIs, VSl, VAny] at hV
    obtain ⟨e7, e8⟩ := hV
    obtain ⟨q0, q1⟩ := hS.1.two
    go_simp
    refine (spinorNorm_any P A n c sq _ _ xs _ hp hp2 hn (ha.below hS.2) hs (hx.below hS.2) hxs hcx).mono ?_
    rintro e w1 ⟨rfl, hb⟩
    exact hK.out _ _ _ rfl rfl rfl hb
  simp only [List.setIfInBounds_toArray, List.set_cons_zero, List.set_cons_succ]
  refine obs_step (Eq.trans (by simp only [List.getElem?_toArray, List.getElem?_cons_succ, List.getElem?_cons_zero]; exact rfl) rfl) rfl (fun w' hS hV K hK => ?_) ?_
  · simp only [List.mem_cons, List.not_mem_nil, or_false, forall_eq_or_imp, forall_eq, List.getD_cons_succ, List.getD_cons_zero, VIs, VSl, VAny] at hV
    obtain ⟨e5, e6, e7, e8, e9⟩ := hV
    obtain ⟨q0, q1⟩ := hS.1.two
    go_simp
    refine (inv_any P (nrmL P sq xs) _ hp hp2 (nrmL_small hp sq xs).1 (nrmL_small hp sq xs).2).mono ?_
    rintro e w1 ⟨rfl, rfl⟩
    exact hK.out _ _ _ rfl rfl rfl (Below.refl _ _)
  simp only [List.setIfInBounds_toArray, List.set_cons_zero, List.set_cons_succ]
  refine obs_step (Eq.trans (by simp only [List.getElem?_toArray, List.getElem?_cons_succ, List.getElem?_cons_zero]; exact rfl) rfl) rfl (fun w' hS hV K hK => ?_) ?_
  · simp only [List.mem_cons, List.not_mem_nil, or_false, forall_eq_or_imp, forall_eq, List.getD_cons_succ, List.getD_cons_zero, VIs, VSl, VAny] at hV
    obtain ⟨e0, e1, e2, e3, ⟨A4, c4, e4, h4⟩, e5, e6, e7, e8, e9, e10⟩ := hV
    obtain ⟨q0, q1⟩ := hS.1.two
    go_simp
    refine (scaled_any P _ (pw n) _ (invF P (nrmL P sq xs)) (revL P xs) _ hp hp2 HPW h4.rd (sgnL_nums (by omega) revT hxs) (by have := (invF_small hp (nrmL P sq xs)); omega) (by have := (invF_small hp (nrmL P sq xs)); omega)).mono ?_
    rintro e w1 ⟨A2, c2, rfl, hM⟩
    exact hK.out _ _ _ rfl rfl ⟨_, _, rfl, hM.after hS.2⟩ hM.b
  simp only [List.setIfInBounds_toArray, List.set_cons_zero, List.set_cons_succ]
  refine obs_step (Eq.trans (by simp only [List.getElem?_toArray, List.getElem?_cons_succ, List.getElem?_cons_zero]; exact rfl) rfl) rfl (fun w' hS hV K hK => ?_) ?_
  · simp only [List.mem_cons, List.not_mem_nil, or_false, forall_eq_or_imp, forall_eq, List.getD_cons_succ, List.getD_cons_zero, VIs, VSl, VAny] at hV
    obtain ⟨e0, e1, e2, e3, ⟨A4, c4, e4, h4⟩, e5, e6, e7, e8, e9, e10, ⟨A11, c11, e11, h11⟩⟩ := hV
    obtain ⟨q0, q1⟩ := hS.1.two
    go_simp
    exact hK.out _ _ _ rfl rfl ⟨_, _, rfl, h11⟩ (Below.refl _ _)
  simp only [List.setIfInBounds_toArray, List.set_cons_zero, List.set_cons_succ]
  refine fun w' hS hV => ?_
  have hV := fun i hi => hV i (List.mem_range.1 hi)
  simp only [List.range, List.range.loop, List.mem_cons, List.not_mem_nil, or_false, forall_eq_or_imp, forall_eq, List.getD_cons_succ, List.getD_cons_zero, VIs, VSl, VAny] at hV
  obtain ⟨e0, e1, e2, e3, ⟨A4, c4, e4, h4⟩, e5, e6, e7, e8, e9, e10, ⟨A11, c11, e11, h11⟩, ⟨A12, c12, e12, h12⟩⟩ := hV
  simp only [e0, e1, e2, e3, e4, e5, e6, e7, e8, e9, e10, e11, e12]
  clear e0 e1 e2 e3 e4 e5 e6 e7 e8 e9 e10 e11 e12
  refine wpAny_done (by kernel_rfl) ?_ _
  go_wp2
  go_ret
  exact ⟨_, _, rfl, h12⟩
set_option maxHeartbeats 1600000 in
set_option maxRecDepth 8000 in
theorem sandwich_any (P : Int) (A : Option Addr) (n c : Nat) (sq : List Int) (X : Option Addr) (cx : Nat) (xs : List Int) (Y : Option Addr) (cy : Nat) (v : List Int) (w : World) (hp : 2 ≤ P) (hp2 : P ≤ 13) (hn : n ≤ 6) (ha : Rd w A n (ints sq)) (hs : NumsL P sq) (hx : Rd w X (pw n) (ints xs)) (hxs : NumsL P xs) (hcx : pw n ≤ cx) (hy : Rd w Y n (ints v)) (hys : NumsL P v) (_hcy : n ≤ cy) :
    Calls Tryz.prog 165 #[.agg #[.int .i64 P, .slice A n c], .slice X (pw n) cx, .slice Y n cy] w fun e w' => ∃ A' c', e = .returned (.slice A' (n) c') ∧ MkI w w' A' (n) c' (sandL P sq n xs v) := by
  have hB0 : Below w.heap.size w (w.alloc (.cells #[.int .i64 P, .slice A n c] 26)) := (Below.refl _ _).alloc (Nat.le_refl _) _
  have k0 : Blk (w.alloc (.cells #[.int .i64 P, .slice A n c] 26)) w.heap.size 26 #[.int .i64 P, .slice A n c] := Blk.new _ _ _
  have HPW : pw n ≤ 65536 := Nat.le_trans (pw_le (show n ≤ 10 by omega)) (by decide)
  have HPW64 : pw n ≤ 64 := pw_le hn
  go_enter Tryz.func165, Tryz.ntmps165
  go_wp2
  refine wp_obs 15 [[], [], [], [], [2, 3], [], [], [5, 6], [], [], [8, 9], [2, 3, 4, 5, 6, 7, 8, 9, 10], [1, 2, 3, 4, 5, 6, 7, 8, 9, 10, 11], [0, 1, 2, 3, 4, 5, 6, 7, 8, 9, 10, 11, 12], [0, 1, 2, 3, 4, 5, 6, 7, 8, 9, 10, 11, 12, 13]] [VIs (.agg #[.int .i64 P, .slice A n c]), VIs (.agg #[.int .i64 P, .slice A n c]), VIs (.agg #[.int .i64 P, .slice A n c]), VIs (.slice X (pw n) cx), VSl w (pw n) (invoL P xs), VIs (.agg #[.int .i64 P, .slice A n c]), VIs (.slice Y n cy), VSl w (pw n) (vecTo n v n), VIs (.agg #[.int .i64 P, .slice A n c]), VIs (.slice X (pw n) cx), VSl w (pw n) (vinvL P sq xs), VRow 3 [(invoL P xs), (vecTo n v n), (vinvL P sq xs)], VSl w (pw n) (timesL P sq n [(invoL P xs), (vecTo n v n), (vinvL P sq xs)]), VSl w (n) (partL n (timesL P sq n [(invoL P xs), (vecTo n v n), (vinvL P sq xs)])), VSl w (n) (partL n (timesL P sq n [(invoL P xs), (vecTo n v n), (vinvL P sq xs)]))] (fun w' => Blk w' w.heap.size 26 #[.int .i64 P, .slice A n c] ∧ Below w.heap.size w w') (by kernel_rfl) (by kernel_rfl) (fun _ _ h hb => ⟨h.1.below hb h.1.lt, h.2.trans (hb.mono h.2.size)⟩) (⟨k0.drew, hB0.drew⟩) (fun x => ?_)
  refine obs_step (Eq.trans (by simp only [List.getElem?_toArray, List.getElem?_cons_zero]; exact rfl) rfl) rfl (fun w' hS hV K hK => ?_) ?_
  · obtain ⟨q0, q1⟩ := hS.1.two
    go_simp
    exact hK.out _ _ _ rfl rfl rfl (Below.refl _ _)
  simp only [List.setIfInBounds_toArray, List.set_cons_zero, List.set_cons_succ]
  refine obs_step (Eq.trans (by simp only [List.getElem?_toArray, List.getElem?_cons_succ, List.getElem?_cons_zero]; exact rfl) rfl) rfl (fun w' hS hV K hK => ?_) ?_
  · obtain ⟨q0, q1⟩ := hS.1.two
    go_simp
    exact hK.out _ _ _ rfl rfl rfl (Below.refl _ _)
  simp only [List.setIfInBounds_toArray, List.set_cons_zero, List.set_cons_succ]
  refine obs_step (Eq.trans (by simp only [List.getElem?_toArray, List.getElem?_cons_succ, List.getElem?_cons_zero]; exact rfl) rfl) rfl (fun w' hS hV K hK => ?_) ?_
  · obtain ⟨q0, q1⟩ := hS.1.two
    go_simp
    exact hK.out _ _ _ rfl rfl rfl (Below.refl _ _)
  simp only [List.setIfInBounds_toArray, List.set_cons_zero, List.set_cons_succ]
  refine obs_step (Eq.trans (by simp only [List.getElem?_toArray, List.getElem?_cons_succ, List.getElem?_cons_zero]; exact rfl) rfl) rfl (fun w' hS hV K hK => ?_) ?_
  · obtain ⟨q0, q1⟩ := hS.1.two
    go_simp
    exact hK.out _ _ _ rfl rfl rfl (Below.refl _ _)
  simp only [List.setIfInBounds_toArray, List.set_cons_zero, List.set_cons_succ]
  refine obs_step (Eq.trans (by simp only [List.getElem?_toArray, List.getElem?_cons_succ, List.getElem?_cons_zero]; exact rfl) rfl) rfl (fun w' hS hV K hK => ?_) ?_
  · simp only [List.mem_cons, List.not_mem_nil, or_false, forall_eq_or_imp, forall_eq, List.getD_cons_succ, List.getD_cons_zero, VIs, VSl, VRow, VAny] at hV
    obtain ⟨e2, e3⟩ := hV
    obtain ⟨q0, q1⟩ := hS.1.two
    go_simp
    refine (involute_any P A n c _ (pw n) _ xs _ hp hp2 HPW64 (hx.below hS.2) hxs).mono ?_
    rintro e w1 ⟨A2, c2, rfl, hM⟩
    exact hK.out _ _ _ rfl rfl ⟨_, _, rfl, hM.after hS.2⟩ hM.b
  simp only [List.setIfInBounds_toArray, List.set_cons_zero, List.set_cons_succ]
  refine obs_step (Eq.trans (by simp only [List.getElem?_toArray, List.getElem?_cons_succ, List.getElem?_cons_zero]; exact rfl) rfl) rfl (fun w' hS hV K hK => ?_) ?_
  · obtain ⟨q0, q1⟩ := hS.1.two
    go_simp
    exact hK.out _ _ _ rfl rfl rfl (Below.refl _ _)
  simp only [List.setIfInBounds_toArray, List.set_cons_zero, List.set_cons_succ]
  refine obs_step (Eq.trans (by simp only [List.getElem?_toArray, List.getElem?_cons_succ, List.getElem?_cons_zero]; exact rfl) rfl) rfl (fun w' hS hV K hK => ?_) ?_
  · obtain ⟨q0, q1⟩ := hS.1.two
    go_simp
    exact hK.out _ _ _ rfl rfl rfl (Below.refl _ _)
  simp only [List.setIfInBounds_toArray, List.set_cons_zero, List.set_cons_succ]
  refine obs_step (Eq.trans (by simp only [List.getElem?_toArray, List.getElem?_cons_succ, List.getElem?_cons_zero]; exact rfl) rfl) rfl (fun w' hS hV K hK => ?_) ?_
  · simp only [List.mem_cons, List.not_mem_nil, or_false, forall_eq_or_imp, forall_eq, List.getD_cons_succ, List.getD_cons_zero, VIs, VSl, VRow, VAny] at hV
    obtain ⟨e5, e6⟩ := hV
    obtain ⟨q0, q1⟩ := hS.1.two
    go_simp
    refine (vector_any P A n c _ _ v _ (by omega) (hy.below hS.2)).mono ?_
    rintro e w1 ⟨A2, c2, rfl, hM⟩
    exact hK.out _ _ _ rfl rfl ⟨_, _, rfl, hM.after hS.2⟩ hM.b
  simp only [List.setIfInBounds_toArray, List.set_cons_zero, List.set_cons_succ]
  refine obs_step (Eq.trans (by simp only [List.getElem?_toArray, List.getElem?_cons_succ, List.getElem?_cons_zero]; exact rfl) rfl) rfl (fun w' hS hV K hK => ?_) ?_
  · obtain ⟨q0, q1⟩ := hS.1.two
    go_simp
    exact hK.out _ _ _ rfl rfl rfl (Below.refl _ _)
  simp only [List.setIfInBounds_toArray, List.set_cons_zero, List.set_cons_succ]
  refine obs_step (Eq.trans (by simp only [List.getElem?_toArray, List.getElem?_cons_succ, List.getElem?_cons_zero]; exact rfl) rfl) rfl (fun w' hS hV K hK => ?_) ?_
  · obtain ⟨q0, q1⟩ := hS.1.two
    go_simp
    exact hK.out _ _ _ rfl rfl rfl (Below.refl _ _)
  simp only [List.setIfInBounds_toArray, List.set_cons_zero, List.set_cons_succ]
  refine obs_step (Eq.trans (by simp only [List.getElem?_toArray, List.getElem?_cons_succ, List.getElem?_cons_zero]; exact rfl) rfl) rfl (fun w' hS hV K hK => ?_) ?_
  · simp only [List.mem_cons, List.not_mem_nil, or_false, forall_eq_or_imp, forall_eq, List.getD_cons_succ, List.getD_cons_zero, VIs, VSl, VRow, VAny] at hV
    obtain ⟨e8, e9⟩ := hV
    obtain ⟨q0, q1⟩ := hS.1.two
    go_simp
    refine (versorInverse_any P A n c sq _ _ xs _ hp hp2 hn (ha.below hS.2) hs (hx.below hS.2) hxs hcx).mono ?_
    rintro e w1 ⟨A2, c2, rfl, hM⟩
    exact hK.out _ _ _ rfl rfl ⟨_, _, rfl, hM.after hS.2⟩ hM.b
  simp only [List.setIfInBounds_toArray, List.set_cons_zero, List.set_cons_succ]
  refine obs_step (Eq.trans (by simp only [List.getElem?_toArray, List.getElem?_cons_succ, List.getElem?_cons_zero]; exact rfl) rfl) rfl (fun w' hS hV K hK => ?_) ?_
  · simp only [List.mem_cons, List.not_mem_nil, or_false, forall_eq_or_imp, forall_eq, List.getD_cons_succ, List.getD_cons_zero, VIs, VSl, VRow, VAny] at hV
    obtain ⟨e2, e3, ⟨A4, c4, e4, h4⟩, e5, e6, ⟨A7, c7, e7, h7⟩, e8, e9, ⟨A10, c10, e10, h10⟩⟩ := hV
    obtain ⟨q0, q1⟩ := hS.1.two
    go_simp
    exact hK.out _ _ _ rfl rfl ⟨_, _, rfl, rdII_three (Blk.new _ _ _) (Rd.below (h4.rd) ((Below.refl _ _).alloc (Nat.le_refl _) _)) (Rd.below (h7.rd) ((Below.refl _ _).alloc (Nat.le_refl _) _)) (Rd.below (h10.rd) ((Below.refl _ _).alloc (Nat.le_refl _) _)) (h4.2.cap) (h7.2.cap) (h10.2.cap)⟩ ((Below.refl _ _).alloc (Nat.le_refl _) _)
  simp only [List.setIfInBounds_toArray, List.set_cons_zero, List.set_cons_succ]
  refine obs_step (Eq.trans (by simp only [List.getElem?_toArray, List.getElem?_cons_succ, List.getElem?_cons_zero]; exact rfl) rfl) rfl (fun w' hS hV K hK => ?_) ?_
  · simp only [List.mem_cons, List.not_mem_nil, or_false, forall_eq_or_imp, forall_eq, List.getD_cons_succ, List.getD_cons_zero, VIs, VSl, VRow, VAny] at hV
    obtain ⟨e1, e2, e3, ⟨A4, c4, e4, h4⟩, e5, e6, ⟨A7, c7, e7, h7⟩, e8, e9, ⟨A10, c10, e10, h10⟩, ⟨A11, c11, e11, h11⟩⟩ := hV
    obtain ⟨q0, q1⟩ := hS.1.two
    go_simp
    refine (times_any P A n c sq _ 3 _ [(invoL P xs), (vecTo n v n), (vinvL P sq xs)] _ hp hp2 hn (by omega) (ha.below hS.2) hs h11 (all_three ⟨(sgnL_nums (by omega) oddT hxs), Rd.lenI (h4.rd)⟩ ⟨(vecTo_nums (by omega) n v hys n), Rd.lenI (h7.rd)⟩ ⟨(vinvL_nums hp sq xs), Rd.lenI (h10.rd)⟩)).mono ?_
    rintro e w1 ⟨A2, c2, rfl, hM⟩
    exact hK.out _ _ _ rfl rfl ⟨_, _, rfl, hM.after hS.2⟩ hM.b
  simp only [List.setIfInBounds_toArray, List.set_cons_zero, List.set_cons_succ]
  refine obs_step (Eq.trans (by simp only [List.getElem?_toArray, List.getElem?_cons_succ, List.getElem?_cons_zero]; exact rfl) rfl) rfl (fun w' hS hV K hK => ?_) ?_
  · simp only [List.mem_cons, List.not_mem_nil, or_false, forall_eq_or_imp, forall_eq, List.getD_cons_succ, List.getD_cons_zero, VIs, VSl, VRow, VAny] at hV
    obtain ⟨e0, e1, e2, e3, ⟨A4, c4, e4, h4⟩, e5, e6, ⟨A7, c7, e7, h7⟩, e8, e9, ⟨A10, c10, e10, h10⟩, ⟨A11, c11, e11, h11⟩, ⟨A12, c12, e12, h12⟩⟩ := hV
    obtain ⟨q0, q1⟩ := hS.1.two
    go_simp
    refine (vectorPart_any P A n c _ _ (timesL P sq n [(invoL P xs), (vecTo n v n), (vinvL P sq xs)]) _ (by omega) h12.rd).mono ?_
    rintro e w1 ⟨A2, c2, rfl, hM⟩
    exact hK.out _ _ _ rfl rfl ⟨_, _, rfl, hM.after hS.2⟩ hM.b
  simp only [List.setIfInBounds_toArray, List.set_cons_zero, List.set_cons_succ]
  refine obs_step (Eq.trans (by simp only [List.getElem?_toArray, List.getElem?_cons_succ, List.getElem?_cons_zero]; exact rfl) rfl) rfl (fun w' hS hV K hK => ?_) ?_
  · simp only [List.mem_cons, List.not_mem_nil, or_false, forall_eq_or_imp, forall_eq, List.getD_cons_succ, List.getD_cons_zero, VIs, VSl, VRow, VAny] at hV
    obtain ⟨e0, e1, e2, e3, ⟨A4, c4, e4, h4⟩, e5, e6, ⟨A7, c7, e7, h7⟩, e8, e9, ⟨A10, c10, e10, h10⟩, ⟨A11, c11, e11, h11⟩, ⟨A12, c12, e12, h12⟩, ⟨A13, c13, e13, h13⟩⟩ := hV
    obtain ⟨q0, q1⟩ := hS.1.two
    go_simp
    exact hK.out _ _ _ rfl rfl ⟨_, _, rfl, h13⟩ (Below.refl _ _)
  simp only [List.setIfInBounds_toArray, List.set_cons_zero, List.set_cons_succ]
  refine fun w' hS hV => ?_
  have hV := fun i hi => hV i (List.mem_range.1 hi)
  simp only [List.range, List.range.loop, List.mem_cons, List.not_mem_nil, or_false, forall_eq_or_imp, forall_eq, List.getD_cons_succ, List.getD_cons_zero, VIs, VSl, VRow, VAny] at hV
  obtain ⟨e0, e1, e2, e3, ⟨A4, c4, e4, h4⟩, e5, e6, ⟨A7, c7, e7, h7⟩, e8, e9, ⟨A10, c10, e10, h10⟩, ⟨A11, c11, e11, h11⟩, ⟨A12, c12, e12, h12⟩, ⟨A13, c13, e13, h13⟩, ⟨A14, c14, e14, h14⟩⟩ := hV
  simp only [e0, e1, e2, e3, e4, e5, e6, e7, e8, e9, e10, e11, e12, e13, e14]
  clear e0 e1 e2 e3 e4 e5 e6 e7 e8 e9 e10 e11 e12 e13 e14
  refine wpAny_done (by kernel_rfl) ?_ _
  go_wp2
  go_ret
  refine ⟨_, _, rfl, ?_⟩
  unfold sandL
  rw [← timesL_three P sq n (invoL P xs) _ _ (by unfold invoL; rw [sgnL_len, hx.lenI]) (sgnL_nums (by omega) oddT hxs)]
  exact h14
end Go.Proofs.YtggigolkncckoaaGreat
namespace Go.Proofs.YtggigolkncckoaaGreat
open Go.RowKit
/-- Are there grades of both parities? -/
def mixB (gs : List Int) : Bool := gs.any fun g => g % (2 : Int) != gs.getD 0 0 % (2 : Int)
/-- Even, by the involute. -/
theorem evenL_invo {P : Int} {n : Nat} (hp : isP P = true) (hn : n ≤ 6) {xs : List Int} (hl : xs.length = pw n) (hx : NumsL P xs) : decide (xs = invoL P xs) = evenL xs := by
  have hpp := isP_ge hp
  have hl64 : xs.length ≤ 64 := by rw [hl]; exact pw_le hn
  unfold evenL
  rw [Bool.eq_iff_iff, decide_eq_true_eq, Bool.not_eq_true', List.any_eq_false]
  constructor
  · intro he g hg
    obtain ⟨i, hi, hne, rfl⟩ := (gradesL_mem xs hl64 g).1 hg
    intro hodd
    have hod : oddT (pc i) = true := by have := beq_iff_eq.1 hodd; exact beq_iff_eq.2 (by omega)
    have h1 : xs.getD i 0 = (invoL P xs).getD i 0 := congrArg (fun l => l.getD i 0) he
    unfold invoL at h1
    rw [sgnL_getD hi, if_pos hod] at h1
    obtain ⟨b1, b2⟩ := hx _ (getD_mem 0 hi)
    have hpos : 0 < xs.getD i 0 := by omega
    have h2 : (-(xs.getD i 0)) % P = P - xs.getD i 0 := by
      rw [show -(xs.getD i 0) = (P - xs.getD i 0) + P * (-1) by omega, Int.add_mul_emod_self_left]
      exact Int.emod_eq_of_lt (by omega) (by omega)
    rw [h2] at h1
    have : P = 2 * xs.getD i 0 := by omega
    have hP : P = 3 ∨ P = 5 ∨ P = 7 ∨ P = 11 ∨ P = 13 := by simp [isP] at hp; omega
    omega
  · intro h
    apply list_ext_getD 0 (by unfold invoL; rw [sgnL_len])
    intro i hi
    unfold invoL
    rw [sgnL_getD hi]
    by_cases hod : oddT (pc i) = true
    · rw [if_pos hod]
      by_cases h0 : xs.getD i 0 = 0
      · rw [h0]; simp
      · have := h _ ((gradesL_mem xs hl64 _).2 ⟨i, hi, h0, rfl⟩)
        have h1 : pc i % 2 = 1 := beq_iff_eq.1 hod
        exact absurd (beq_iff_eq.2 (by omega)) this
    · rw [if_neg hod]
end Go.Proofs.YtggigolkncckoaaGreat

/-
  LawFnProjections: part 8 of the texts that the proof needs. No condition.
-/
import Derived.Test.YtggigolkncckoaaGreatP7
namespace Go.Proofs.YtggigolkncckoaaGreat
def swn (a b : Nat) : Nat → Nat
  | 0 => 0
  | i + 1 => swn a b i + (if bit b i = 1 then pcn (a / 2 ^ (i + 1)) 6 else 0)
theorem swaps_swn {a b : Nat} (ha : a < 64) : ∀ n, swaps a b n = swn a b n := by
  intro n
  induction n with
  | zero => rfl
  | succ n ih =>
    simp only [swaps, swn]
    rw [ih, pc_pcn 6 _ (Nat.lt_of_le_of_lt (Nat.div_le_self _ _) (by simpa using ha))]
theorem bit_high {b n i : Nat} (hb : b < 2 ^ n) (h : n ≤ i) : bit b i = 0 := by
  unfold bit
  rw [Nat.div_eq_of_lt (Nat.lt_of_lt_of_le hb (Nat.pow_le_pow_right (by decide) h))]
theorem swaps_more {a b n : Nat} (hb : b < 2 ^ n) : ∀ k, swaps a b (n + k) = swaps a b n := by
  intro k
  induction k with
  | zero => rfl
  | succ k ih =>
    rw [← Nat.add_assoc]
    simp only [swaps]
    rw [ih, bit_high hb (by omega)]
    rfl
theorem swaps_six {a b n : Nat} (hn : n ≤ 6) (ha : a < pw n) (hb : b < pw n) : swaps a b n = swn a b 6 := by
  have h64 : a < 64 := Nat.lt_of_lt_of_le ha (pw_le (k := 6) hn)
  rw [← swaps_swn h64, show 6 = n + (6 - n) by omega, swaps_more hb]
def sgI (a : Nat) : Int := if oddT (pc a) then -1 else 1
theorem sgI_sg (a : Nat) : sgI a = sg (pc a) := by
  unfold sgI sg oddT
  simp only [beq_iff_eq]
theorem sgI_xor (a b : Nat) : sgI (a ^^^ b) = sgI a * sgI b := by
  rw [sgI_sg, sgI_sg, sgI_sg, ← sg_add]
  exact sg_congr (pc_xor a b)
section
variable {p : Int} {sq : List Int}
def Cl.invo (x : Cl p sq) : Cl p sq := Cl.of x.pos fun m => sgI m * x.co m
theorem Cl.invo_co (x : Cl p sq) {m : Nat} (hm : m < pw sq.length) : x.invo.co m % p = (sgI m * x.co m) % p := Cl.of_cg _ _ hm
theorem Cl.invo_mul (x y : Cl p sq) : (x * y).invo = x.invo * y.invo := Cl.same fun m hm => by
  rw [Cl.invo_co _ hm, Int.mul_emod, Cl.mul_co _ _ hm, ← Int.mul_emod, Cl.mul_co _ _ hm, mulZ_cg p sq (fun a ha => Cl.invo_co x ha) (fun a ha => Cl.invo_co y ha) hm]
  unfold mulZ
  rw [← sumTo_mul]
  congr 1
  refine sumTo_congr fun a _ => ?_
  have h := sgI_xor a (a ^^^ m)
  rw [xor_self_left] at h
  rw [h]
  show _ = sgI a * x.co a * (sgI (a ^^^ m) * y.co (a ^^^ m)) * _
  generalize x.co a = X
  generalize y.co (a ^^^ m) = Y
  generalize sgI a = S
  generalize sgI (a ^^^ m) = T
  rw [← Int.mul_assoc]
  congr 1
  rw [Int.mul_assoc, Int.mul_assoc, Int.mul_left_comm T]
theorem Cl.invo_sm (k : Int) (x : Cl p sq) : (k * x).invo = k * x.invo := Cl.same fun m hm => by
  rw [Cl.invo_co _ hm, Int.mul_emod, Cl.sm_co _ _ hm, ← Int.mul_emod, Cl.sm_co _ _ hm, Int.mul_emod k, Cl.invo_co _ hm, ← Int.mul_emod, Int.mul_left_comm]
theorem Cl.one_invo (hp : 0 < p) : (Cl.one hp : Cl p sq).invo = Cl.one hp := Cl.same fun m hm => by
  rw [Cl.invo_co _ hm, Int.mul_emod, Cl.one_co hp hm, ← Int.mul_emod]
  by_cases h : m = 0
  · rw [if_pos h, h]; unfold sgI; rw [pc_zero]; rfl
  · rw [if_neg h, Int.mul_zero]
def Cl.vec (hp : 0 < p) (v : List Int) : Cl p sq := Cl.of hp fun b => sumTo sq.length fun i => if b = 2 ^ i then v.getD i 0 else 0
theorem Cl.vec_co (hp : 0 < p) (v : List Int) {m : Nat} (hm : m < pw sq.length) : (Cl.vec hp v : Cl p sq).co m % p = (sumTo sq.length fun i => if m = 2 ^ i then v.getD i 0 else 0) % p := Cl.of_cg _ _ hm
theorem Cl.vec_l (hp : 0 < p) {v : List Int} (hv : NumsL p v) : (Cl.vec hp v : Cl p sq).l = vecTo sq.length v sq.length := by
  refine list_ext_getD 0 (by rw [Cl.len, vecTo_len]) fun m hm => ?_
  rw [Cl.len] at hm
  rw [vecTo_getD _ hm _ (Nat.le_refl _)]
  show (Cl.vec _ _ : Cl p sq).co m = _
  rw [← Cl.co_mod, Cl.vec_co hp v hm, ← vecTo_getD v hm _ (Nat.le_refl _)]
  have := (vecTo_nums hp sq.length v hv sq.length).getD hp m
  exact Int.emod_eq_of_lt this.1 this.2
theorem pow_inj {i j : Nat} (h : (2 : Nat) ^ i = 2 ^ j) : i = j := (Nat.pow_right_inj (by decide)).1 h
theorem bit_pow (i j : Nat) : bit (2 ^ i) j = if i = j then 1 else 0 := by
  rw [bit_eq, Nat.testBit_two_pow]
  by_cases h : i = j <;> simp [h]
theorem pc_pow (i : Nat) : pc (2 ^ i) = 1 := by
  rw [pc_pcn (i + 1) _ (Nat.pow_lt_pow_right (by decide) (by omega)), pcn, bit_pow, if_pos rfl]
  have : ∀ k, k ≤ i → pcn (2 ^ i) k = 0 := by
    intro k
    induction k with
    | zero => intro _; rfl
    | succ k ih => intro hk; rw [pcn, ih (by omega), bit_pow, if_neg (by omega)]
  rw [this i (Nat.le_refl _)]
theorem swaps_pow (a j : Nat) : ∀ k, swaps a (2 ^ j) k = if j < k then pc (a / 2 ^ (j + 1)) else 0 := by
  intro k
  induction k with
  | zero => rfl
  | succ k ih =>
    simp only [swaps]
    rw [ih, bit_pow]
    by_cases h1 : j = k
    · subst h1; simp
    · by_cases h2 : j < k
      · simp [h1, h2, show j < k + 1 by omega]
      · simp [h1, h2, show ¬ j < k + 1 by omega]
theorem comZ_pow (sq : List Int) (i j : Nat) : ∀ k, comZ sq (2 ^ i) (2 ^ j) k = if i = j ∧ i < k then sq.getD i 0 else 1 := by
  intro k
  induction k with
  | zero => simp [comZ]
  | succ k ih =>
    simp only [comZ]
    rw [ih, bit_pow, bit_pow]
    by_cases h : i = j
    · subst h
      by_cases h1 : i = k
      · subst h1; simp
      · by_cases h2 : i < k
        · simp [h1, h2, show i < k + 1 by omega]
        · simp [h1, h2, show ¬ i < k + 1 by omega]
    · simp only [h, false_and, if_false]
      rw [if_neg, Int.mul_one]
      rintro ⟨h1, h2⟩
      split at h1
      · split at h2
        · omega
        · cases h2
      · cases h1
theorem facZ_same (sq : List Int) {i : Nat} (hi : i < sq.length) : facZ sq (2 ^ i) (2 ^ i) = sq.getD i 0 := by
  unfold facZ
  rw [swaps_pow, if_pos hi, comZ_pow, if_pos ⟨rfl, hi⟩, Nat.div_eq_of_lt (Nat.pow_lt_pow_right (by decide) (by omega)), pc_zero]
  show 1 * _ = _
  rw [Int.one_mul]
theorem facZ_less (sq : List Int) {i j : Nat} (h : i < j) (hj : j < sq.length) : facZ sq (2 ^ i) (2 ^ j) = 1 ∧ facZ sq (2 ^ j) (2 ^ i) = -1 := by
  unfold facZ
  rw [swaps_pow, if_pos hj, comZ_pow, if_neg (by omega), swaps_pow, if_pos (by omega), comZ_pow, if_neg (by omega), Nat.div_eq_of_lt (Nat.pow_lt_pow_right (by decide) (by omega)), pc_zero]
  refine ⟨rfl, ?_⟩
  rw [Nat.pow_div (by omega) (by decide), pc_pow]
  rfl
theorem facZ_both (sq : List Int) {i j : Nat} (hi : i < sq.length) (hj : j < sq.length) : facZ sq (2 ^ i) (2 ^ j) + facZ sq (2 ^ j) (2 ^ i) = if i = j then 2 * sq.getD i 0 else 0 := by
  rcases Nat.lt_trichotomy i j with h | h | h
  · rw [(facZ_less sq h hj).1, (facZ_less sq h hj).2, if_neg (by omega)]; rfl
  · subst h; rw [facZ_same sq hi, if_pos rfl]; omega
  · rw [(facZ_less sq h hi).1, (facZ_less sq h hi).2, if_neg (by omega)]; rfl
/-- The product of two vectors, over the integers. -/
def bil (sq v u : List Int) : Int := sumTo sq.length fun i => v.getD i 0 * u.getD i 0 * sq.getD i 0
theorem bil_symm (sq v u : List Int) : bil sq v u = bil sq u v := sumTo_congr fun i _ => by rw [Int.mul_comm (v.getD i 0)]
/-- The product of vectors, at a place. -/
theorem mulZ_vec (sq u v : List Int) {m : Nat} (hm : m < pw sq.length) :
    mulZ sq (fun b => sumTo sq.length fun i => if b = 2 ^ i then u.getD i 0 else 0) (fun b => sumTo sq.length fun i => if b = 2 ^ i then v.getD i 0 else 0) m
      = sumTo sq.length fun i => sumTo sq.length fun j => if 2 ^ i ^^^ 2 ^ j = m then u.getD i 0 * v.getD j 0 * facZ sq (2 ^ i) (2 ^ j) else 0 := by
  unfold mulZ
  rw [sumTo_congr (g := fun a => sumTo sq.length fun i => if a = 2 ^ i then sumTo sq.length fun j => if 2 ^ i ^^^ 2 ^ j = m then u.getD i 0 * v.getD j 0 * facZ sq (2 ^ i) (2 ^ j) else 0 else 0) fun a ha => ?_, sumTo_comm]
  · refine sumTo_congr fun i hi => ?_
    rw [sumTo_one (2 ^ i) (two_lt hi) fun a _ hne => if_neg hne, if_pos rfl]
  · rw [← sumTo_mul_right, ← sumTo_mul_right]
    refine sumTo_congr fun i _ => ?_
    by_cases h : a = 2 ^ i
    · rw [if_pos h, if_pos h, ← sumTo_mul, ← sumTo_mul_right]
      refine sumTo_congr fun j _ => ?_
      by_cases h2 : 2 ^ i ^^^ 2 ^ j = m
      · rw [if_pos h2, h, if_pos ((xor_eq_iff _ _ _).1 h2).symm, ← (xor_eq_iff _ _ _).1 h2]
      · rw [if_neg h2, h, if_neg (fun e => h2 ((xor_eq_iff _ _ _).2 e.symm)), Int.mul_zero, Int.zero_mul]
    · rw [if_neg h, if_neg h, Int.zero_mul, Int.zero_mul]
/-- Vectors: the sum of both products is twice the number of the product. -/
theorem Cl.vec_anti (hp : 0 < p) (u v : List Int) : (Cl.vec hp u : Cl p sq) * Cl.vec hp v + Cl.vec hp v * Cl.vec hp u = (2 * bil sq u v) * Cl.one hp := Cl.same fun m hm => by
  rw [Cl.add_co _ _ hm, Int.add_emod, Cl.mul_co _ _ hm, Cl.mul_co _ _ hm, mulZ_cg p sq (fun a ha => Cl.vec_co hp u ha) (fun a ha => Cl.vec_co hp v ha) hm,
    mulZ_cg p sq (fun a ha => Cl.vec_co hp v ha) (fun a ha => Cl.vec_co hp u ha) hm, ← Int.add_emod, mulZ_vec sq u v hm, mulZ_vec sq v u hm, Cl.sm_co _ _ hm, Int.mul_emod (2 * _), Cl.one_co hp hm, ← Int.mul_emod]
  congr 1
  rw [sumTo_comm sq.length sq.length (fun i j => if 2 ^ i ^^^ 2 ^ j = m then v.getD i 0 * u.getD j 0 * facZ sq (2 ^ i) (2 ^ j) else 0), ← sumTo_add]
  unfold bil
  rw [← sumTo_mul, ← sumTo_mul_right]
  refine sumTo_congr fun i hi => ?_
  rw [← sumTo_add]
  have key : ∀ j, j < sq.length → ((if 2 ^ i ^^^ 2 ^ j = m then u.getD i 0 * v.getD j 0 * facZ sq (2 ^ i) (2 ^ j) else 0) + if 2 ^ j ^^^ 2 ^ i = m then v.getD j 0 * u.getD i 0 * facZ sq (2 ^ j) (2 ^ i) else 0) = if 2 ^ i ^^^ 2 ^ j = m then u.getD i 0 * v.getD j 0 * (if i = j then 2 * sq.getD i 0 else 0) else 0 := fun j hj => by
    rw [Nat.xor_comm (2 ^ j)]
    by_cases h : 2 ^ i ^^^ 2 ^ j = m
    · rw [if_pos h, if_pos h, if_pos h, Int.mul_comm (v.getD j 0), ← Int.mul_add, facZ_both sq hi hj]
    · rw [if_neg h, if_neg h, if_neg h]; rfl
  rw [sumTo_congr key, sumTo_one i hi fun j _ hne => by
    split
    · rw [if_neg (fun e => hne e.symm), Int.mul_zero]
    · rfl]
  rw [if_pos rfl, Nat.xor_self]
  by_cases h : m = 0
  · rw [if_pos h, if_pos h.symm, Int.mul_one, Int.mul_left_comm]
  · rw [if_neg h, if_neg (fun e => h e.symm), Int.mul_zero]
end
end Go.Proofs.YtggigolkncckoaaGreat
namespace Go.Proofs.YtggigolkncckoaaGreat
theorem half_ok {p : Int} (hP : isP p = true) : (p + 1) / 2 * 2 % p = 1 % p := by
  simp only [isP, Bool.or_eq_true, beq_iff_eq] at hP
  rcases hP with (((rfl | rfl) | rfl) | rfl) | rfl <;> decide
theorem inv_mod {p a : Int} (hP : isP p = true) (h : a % p ≠ 0) : a * invF p (a % p) % p = 1 := by
  have h3 := (isP_ge hP).1
  have h1 := Int.emod_nonneg a (show p ≠ 0 by omega)
  have h2 := Int.emod_lt_of_pos a (show 0 < p by omega)
  have hs := inv_spec hP (show 0 < a % p by omega) h2
  have := (hs.2.2 (invF p (a % p)) (by omega) hs.2.1).2 rfl
  rw [Int.mul_emod, Int.emod_emod_of_dvd _ (Int.dvd_refl p)] at this
  rw [Int.mul_emod]
  exact this
section
variable {p : Int} {sq : List Int}
theorem Cl.two (x : Cl p sq) : x + x = (2 : Int) * x := by
  have := Cl.add_sm 1 1 x
  rw [Cl.one_sm] at this
  exact this.symm
theorem Cl.half {x y : Cl p sq} (hP : isP p = true) (h : (2 : Int) * x = (2 : Int) * y) : x = y := by
  have e : ∀ z : Cl p sq, ((p + 1) / 2 : Int) * ((2 : Int) * z) = z := fun z => by rw [Cl.sm_sm, Cl.sm_cg (half_ok hP), Cl.one_sm]
  rw [← e x, h, e y]
theorem Cl.add_back (x y : Cl p sq) (k : Int) : x + k * y + (-k) * y = x := by
  rw [Cl.add_assoc, ← Cl.add_sm, show k + -k = 0 by omega, Cl.zero_sm, Cl.add_zero]
theorem Cl.move {x y z : Cl p sq} {k : Int} (h : x + k * y = z) : x = z + (-k) * y := by rw [← h, Cl.add_back]
theorem Cl.neg_mul (x y : Cl p sq) : (-x) * y = (-1 : Int) * (x * y) := by rw [Cl.neg_sm, Cl.sm_mul]
theorem Cl.vec_plus (hp : 0 < p) {a b : List Int} (ha : a.length = sq.length) (k : Int) : (Cl.vec hp (plusL p a b k) : Cl p sq) = Cl.vec hp a + k * Cl.vec hp b := Cl.same fun m hm => by
  rw [Cl.vec_co hp _ hm, Cl.add_co _ _ hm, Int.add_emod, Cl.vec_co hp _ hm, Cl.sm_co _ _ hm, Int.mul_emod, Cl.vec_co hp _ hm, ← Int.mul_emod, ← Int.add_emod, ← sumTo_mul, ← sumTo_add]
  refine sumTo_mod p fun i hi => ?_
  by_cases h : m = 2 ^ i
  · rw [if_pos h, if_pos h, if_pos h, plusL_getD _ _ (by omega), Int.emod_emod_of_dvd _ (Int.dvd_refl p)]
  · rw [if_neg h, if_neg h, if_neg h, Int.mul_zero]; rfl
theorem Cl.vec_scale (hp : 0 < p) {a : List Int} (ha : a.length = sq.length) (k : Int) : (Cl.vec hp (scaleL p a k) : Cl p sq) = k * Cl.vec hp a := Cl.same fun m hm => by
  rw [Cl.vec_co hp _ hm, Cl.sm_co _ _ hm, Int.mul_emod, Cl.vec_co hp _ hm, ← Int.mul_emod, ← sumTo_mul]
  refine sumTo_mod p fun i hi => ?_
  by_cases h : m = 2 ^ i
  · rw [if_pos h, if_pos h, scaleL_getD _ (by omega), Int.emod_emod_of_dvd _ (Int.dvd_refl p), Int.mul_comm]
  · rw [if_neg h, if_neg h, Int.mul_zero]
theorem Cl.vec_at (hp : 0 < p) {v : List Int} (hv : NumsL p v) (hl : v.length = sq.length) : partL sq.length (Cl.vec hp v : Cl p sq).l = v := by
  refine list_ext_getD 0 (by rw [partL_len, hl]) fun i hi => ?_
  rw [partL_len] at hi
  have e : (partL sq.length (Cl.vec hp v : Cl p sq).l).getD i 0 = (Cl.vec hp v : Cl p sq).co (2 ^ i) := by
    unfold partL
    rw [getD_of_lt 0 (by simpa using hi), List.getElem_map, List.getElem_range]; rfl
  rw [e, ← Cl.co_mod, Cl.vec_co hp v (two_lt hi), sumTo_one i hi fun j hj hne => if_neg fun e => hne (pow_inj e).symm, if_pos rfl]
  have := hv.getD hp i
  exact Int.emod_eq_of_lt this.1 this.2
theorem Cl.vec_invo (hp : 0 < p) (v : List Int) : (Cl.vec hp v : Cl p sq).invo = (-1 : Int) * Cl.vec hp v := Cl.same fun m hm => by
  rw [Cl.invo_co _ hm, Int.mul_emod, Cl.vec_co hp v hm, ← Int.mul_emod, Cl.sm_co _ _ hm, Int.mul_emod (-1), Cl.vec_co hp v hm, ← Int.mul_emod, ← sumTo_mul, ← sumTo_mul]
  congr 1
  refine sumTo_congr fun i _ => ?_
  by_cases h : m = 2 ^ i
  · rw [if_pos h, h]
    have : sgI (2 ^ i) = -1 := by unfold sgI; rw [pc_pow]; rfl
    rw [this]
  · rw [if_neg h, Int.mul_zero, Int.mul_zero]
theorem Cl.vec_sq (hp : 0 < p) (hP : isP p = true) (v : List Int) : (Cl.vec hp v : Cl p sq) * Cl.vec hp v = bil sq v v * Cl.one hp := by
  refine Cl.half hP ?_
  rw [← Cl.two, Cl.vec_anti, Cl.sm_sm]
/-- What a vector on both sides does to a vector. -/
theorem Cl.vec_both (hp : 0 < p) (hP : isP p = true) (u w : List Int) : (Cl.vec hp u : Cl p sq) * Cl.vec hp w * Cl.vec hp u = (2 * bil sq u w) * Cl.vec hp u + (-(bil sq u u)) * Cl.vec hp w := by
  refine Cl.move ?_
  have h := congrArg (fun z : Cl p sq => z * Cl.vec hp u) (Cl.vec_anti hp u w)
  simp only [Cl.add_mul, Cl.sm_mul, Cl.one_mul] at h
  rw [Cl.mul_assoc (Cl.vec hp w), Cl.vec_sq hp hP, Cl.mul_sm, Cl.mul_one] at h
  exact h
theorem bil_plus {u : List Int} {a b : List Int} (ha : a.length = sq.length) (k : Int) : bil sq (plusL p a b k) u % p = (bil sq a u + k * bil sq b u) % p := by
  unfold bil
  rw [← sumTo_mul, ← sumTo_add]
  refine sumTo_mod p fun i hi => ?_
  rw [plusL_getD _ _ (by omega), Int.mul_assoc, Int.mul_emod, Int.emod_emod_of_dvd _ (Int.dvd_refl p), ← Int.mul_emod, Int.add_mul]
  congr 1
  rw [Int.mul_assoc, Int.mul_assoc, Int.mul_assoc]
theorem pairL_bil {v u : List Int} (hv : v.length = sq.length) : pairL p sq v u % p = bil sq v u % p := by
  rw [pairL_sum hv, Int.emod_emod_of_dvd _ (Int.dvd_refl p)]
  unfold bil
  refine sumTo_mod p fun i _ => ?_
  rw [Int.mul_emod, Int.emod_emod_of_dvd _ (Int.dvd_refl p), ← Int.mul_emod]
/-- The reflection of w in v. -/
def reflF (p : Int) (sq v w : List Int) : List Int := plusL p w v (-(2 * bil sq v w * invF p (bil sq v v % p)))
theorem reflF_len {v w : List Int} : (reflF p sq v w).length = w.length := plusL_len _ _ _ _
theorem reflF_nums (hp : 0 < p) (v w : List Int) : NumsL p (reflF p sq v w) := plusL_nums hp _ _ _
/-- Products of vectors. -/
def Cl.prod (hp : 0 < p) (vs : List (List Int)) : Cl p sq := vs.foldl (fun x v => x * Cl.vec hp v) (Cl.one hp)
theorem Cl.prod_from (hp : 0 < p) (vs : List (List Int)) : ∀ y : Cl p sq, vs.foldl (fun x v => x * Cl.vec hp v) y = y * Cl.prod hp vs := by
  induction vs with
  | nil => intro y; exact (Cl.mul_one hp y).symm
  | cons v vs ih =>
    intro y
    unfold Cl.prod
    rw [List.foldl_cons, ih, List.foldl_cons, ih, Cl.one_mul, Cl.mul_assoc]
theorem Cl.prod_cons (hp : 0 < p) (v : List Int) (vs : List (List Int)) : (Cl.prod hp (v :: vs) : Cl p sq) = Cl.vec hp v * Cl.prod hp vs := by
  have := Cl.prod_from hp vs (Cl.vec hp v : Cl p sq)
  rw [← this]
  unfold Cl.prod
  rw [List.foldl_cons, Cl.one_mul]
theorem Cl.prod_snoc (hp : 0 < p) (v : List Int) (vs : List (List Int)) : (Cl.prod hp (vs ++ [v]) : Cl p sq) = Cl.prod hp vs * Cl.vec hp v := by
  unfold Cl.prod
  rw [List.foldl_append]; rfl
theorem Cl.prod_invo (hp : 0 < p) (vs : List (List Int)) : (Cl.prod hp vs : Cl p sq).invo = sg vs.length * Cl.prod hp vs := by
  induction vs with
  | nil => show (Cl.one hp).invo = (1 : Int) * Cl.one hp; rw [Cl.one_invo, Cl.one_sm]
  | cons v vs ih =>
    rw [Cl.prod_cons, Cl.invo_mul, ih, Cl.vec_invo, Cl.sm_mul, Cl.mul_sm, Cl.sm_sm, List.length_cons, sg_add]
    congr 1
    show -1 * sg vs.length = sg vs.length * -1
    exact Int.mul_comm _ _
theorem Cl.one_refl (hp : 0 < p) (hP : isP p = true) {v w : List Int} (hw : w.length = sq.length) (hv : bil sq v v % p ≠ 0) : (Cl.vec hp v : Cl p sq) * Cl.vec hp w * Cl.vec hp v = (-(bil sq v v)) * Cl.vec hp (reflF p sq v w) := by
  rw [Cl.vec_both hp hP]
  unfold reflF
  rw [Cl.vec_plus hp hw, Cl.sm_add, Cl.sm_sm, Cl.add_comm]
  congr 1
  refine Cl.sm_cg ?_ _
  have h1 := inv_mod hP hv
  have h3 := (isP_ge hP).1
  have h2 : (1 : Int) % p = bil sq v v * invF p (bil sq v v % p) % p := by rw [h1, Int.emod_eq_of_lt (by omega) (by omega)]
  have h4 := cg_mul h2 (show 2 * bil sq v w % p = 2 * bil sq v w % p from rfl)
  rw [Int.one_mul] at h4
  rw [h4, Int.neg_mul_neg]
  congr 1
  rw [Int.mul_assoc, Int.mul_comm (invF p _)]
end
end Go.Proofs.YtggigolkncckoaaGreat
namespace Go.Proofs.YtggigolkncckoaaGreat
section
variable {p : Int} {sq : List Int}
theorem mul_ne {p : Int} (hP : isP p = true) {a b : Int} (ha : a % p ≠ 0) (hb : b % p ≠ 0) : a * b % p ≠ 0 := fun h => by
  have h3 := (isP_ge hP).1
  rw [Int.mul_emod] at h
  rcases mul_zero_mod hP (emod_small a p (by omega)) (emod_small b p (by omega)) h with h | h
  · exact ha h
  · exact hb h
/-- A vector is a sum of multiples of unit vectors. -/
def Cl.sum (hp : 0 < p) : Nat → (Nat → Cl p sq) → Cl p sq
  | 0, _ => Cl.zero hp
  | n + 1, f => Cl.sum hp n f + f n
theorem Cl.zero_co (hp : 0 < p) {m : Nat} (hm : m < pw sq.length) : (Cl.zero hp : Cl p sq).co m % p = 0 := by
  unfold Cl.zero; rw [Cl.of_cg _ _ hm, Int.zero_emod]
theorem Cl.sum_co (hp : 0 < p) (f : Nat → Cl p sq) {m : Nat} (hm : m < pw sq.length) : ∀ n, (Cl.sum hp n f).co m % p = (sumTo n fun i => (f i).co m) % p := by
  intro n
  induction n with
  | zero => rw [show Cl.sum hp 0 f = Cl.zero hp from rfl, Cl.zero_co hp hm]; rfl
  | succ n ih =>
    rw [show Cl.sum hp (n + 1) f = Cl.sum hp n f + f n from rfl, Cl.add_co _ _ hm, Int.add_emod, ih, ← Int.add_emod, sumTo_succ]
theorem Cl.zero_mul (hp : 0 < p) (x : Cl p sq) : Cl.zero hp * x = Cl.zero hp := by
  have := Cl.zero_sm (x := (Cl.one hp : Cl p sq))
  rw [← this, Cl.sm_mul, Cl.one_mul, Cl.zero_sm, Cl.zero_sm]
theorem Cl.mul_zero (hp : 0 < p) (x : Cl p sq) : x * Cl.zero hp = Cl.zero hp := by
  have := Cl.zero_sm (x := (Cl.one hp : Cl p sq))
  rw [← this, Cl.mul_sm, Cl.mul_one, Cl.zero_sm, Cl.zero_sm]
theorem Cl.vec_sum (hp : 0 < p) (w : List Int) : (Cl.vec hp w : Cl p sq) = Cl.sum hp sq.length fun i => w.getD i 0 * Cl.vec hp (unitRow sq.length i) := Cl.same fun m hm => by
  rw [Cl.vec_co hp w hm, Cl.sum_co hp _ hm]
  refine sumTo_mod p fun i hi => ?_
  rw [Cl.sm_co _ _ hm, Int.mul_emod, Cl.vec_co hp _ hm, ← Int.mul_emod, sumTo_one i hi fun j hj hne => by
    split
    · rw [unitRow_getD hj, if_neg fun e => hne e.symm]
    · rfl]
  rw [unitRow_getD hi, if_pos rfl]
  by_cases h : m = 2 ^ i
  · rw [if_pos h, if_pos h, Int.mul_one]
  · rw [if_neg h, if_neg h, Int.mul_zero]
end
end Go.Proofs.YtggigolkncckoaaGreat
namespace Go.Proofs.YtggigolkncckoaaGreat
open Go.RowKit
set_option maxHeartbeats 800000 in
theorem norm_any (P : Int) (A : Option Addr) (n c : Nat) (sq : List Int) (X : Option Addr) (cx : Nat) (v : List Int) (w : World) (hp : 2 ≤ P) (hp2 : P ≤ 13) (hn : n ≤ 6) (ha : Rd w A n (ints sq)) (hs : NumsL P sq) (hx : Rd w X n (ints v)) (hv : NumsL P v) :
    Calls Tryz.prog 151 #[.agg #[.int .i64 P, .slice A n c], .slice X n cx] w fun e w' => e = .returned (.int .i64 (pairL P sq v v)) ∧ Below w.heap.size w w' := by
  have hB0 : Below w.heap.size w (w.alloc (.cells #[.int .i64 P, .slice A n c] 26)) := (Below.refl _ _).alloc (Nat.le_refl _) _
  have k0 : Blk (w.alloc (.cells #[.int .i64 P, .slice A n c] 26)) w.heap.size 26 #[.int .i64 P, .slice A n c] := Blk.new _ _ _
  have hpr := pair_any P A n c sq X cx v X cx v (w.alloc (.cells #[.int .i64 P, .slice A n c] 26)) hp hp2 hn (ha.below hB0) hs (hx.below hB0) hv (hx.below hB0) hv
  obtain ⟨q0, q1⟩ := k0.two
  go_enter Tryz.func151, Tryz.ntmps151
  go_wp2_with fail
  refine hpr.mono ?_
  rintro e w2 ⟨rfl, hb⟩
  go_wp2
  go_ret
  exact ⟨rfl, hB0.trans (hb.mono hB0.size)⟩
theorem pairL_small {P : Int} (hp : 2 ≤ P) (sq v u : List Int) : 0 ≤ pairL P sq v u ∧ pairL P sq v u < P := by
  unfold pairL dotL
  exact ⟨Int.emod_nonneg _ (by omega), Int.emod_lt_of_pos _ (by omega)⟩
/-- The reflection in u of v, as the program computes it. -/
def rflL (P : Int) (sq u v : List Int) : List Int := plusL P v u (-2 * pairL P sq u v * invF P (pairL P sq u u))
theorem rflL_len (P : Int) (sq u v : List Int) : (rflL P sq u v).length = v.length := plusL_len _ _ _ _
theorem rflL_nums {P : Int} (hp : 0 < P) (sq u v : List Int) : NumsL P (rflL P sq u v) := plusL_nums hp _ _ _
theorem mul_two_small {P a b : Int} (h2 : P ≤ 13) (ha : 0 ≤ a ∧ a < P) (hb : 0 ≤ b ∧ b < P) : 0 ≤ a * b ∧ a * b ≤ 144 :=
  ⟨Int.mul_nonneg ha.1 hb.1, Int.le_trans (Int.mul_le_mul_of_nonneg_right (show a ≤ 12 by omega) hb.1) (by omega)⟩
set_option maxHeartbeats 3200000 in
set_option maxRecDepth 8000 in
theorem reflected_any (P : Int) (A : Option Addr) (n c : Nat) (sq : List Int) (U : Option Addr) (cu : Nat) (u : List Int) (Y : Option Addr) (cy : Nat) (v : List Int) (w : World) (HP : isP P = true) (hn : n ≤ 6) (ha : Rd w A n (ints sq)) (hs : NumsL P sq) (hx : Rd w U n (ints u)) (hu : NumsL P u) (hy : Rd w Y n (ints v)) (hv : NumsL P v) (hne : ¬ pairL P sq u u = 0) :
    Calls Tryz.prog 174 #[.agg #[.int .i64 P, .slice A n c], .slice U n cu, .slice Y n cy] w fun e w' => ∃ A' c', e = .returned (.slice A' n c') ∧ MkI w w' A' n c' (rflL P sq u v) := by
  obtain ⟨hp3, hp2⟩ := isP_ge HP
  have hp : 2 ≤ P := by omega
  have ha1 := pairL_small hp sq u v
  have hb1 := pairL_small hp sq u u
  have hi1 := invF_small hp (pairL P sq u u)
  have HM1 := mul_two_small hp2 ha1 hi1
  have HSA := Lib.hid hs
  have HUA := Lib.hid hu
  have HVA := Lib.hid hv
  obtain ⟨R, hR⟩ : ∃ R, R = rflL P sq u v := ⟨_, rfl⟩
  have HR := Lib.hid hR
  have HPR := Lib.hid fun (w' : World) (h : Below w.heap.size w w') => pair_any P A n c sq U cu u Y cy v w' hp hp2 hn (ha.below h) hs (hx.below h) hu (hy.below h) hv
  have HNR := Lib.hid fun (w' : World) (h : Below w.heap.size w w') => norm_any P A n c sq U cu u w' hp hp2 hn (ha.below h) hs (hx.below h) hu
  have HIN := Lib.hid fun (w' : World) => inv_any P (pairL P sq u u) w' hp hp2 (by omega) (by omega)
  have HPL := Lib.hid fun (w' : World) (h : Below w.heap.size w w') => plus_any P Y n cy U n cu (-2 * pairL P sq u v * invF P (pairL P sq u u)) v u w' hp hp2 (by omega) (Nat.le_refl _) (hy.below h) hv (hx.below h) hu (by rw [Int.mul_assoc]; omega) (by rw [Int.mul_assoc]; omega)
  rw [show plusL P v u (-2 * pairL P sq u v * invF P (pairL P sq u u)) = R from hR.symm] at HPL
  obtain ⟨a, hA⟩ : ∃ a, a = pairL P sq u v := ⟨_, rfl⟩
  obtain ⟨b, hB⟩ : ∃ b, b = pairL P sq u u := ⟨_, rfl⟩
  rw [← hB] at HNR HIN HPL HM1 hi1 hb1 hne
  rw [← hA] at HPR HPL HM1 ha1
  obtain ⟨i, hi⟩ : ∃ i, i = invF P b := ⟨_, rfl⟩
  rw [← hi] at HIN HPL HM1 hi1
  have W1 := i64_fit (-2 * a) (by omega) (by omega)
  have W2 := i64_fit (-2 * a * i) (by rw [Int.mul_assoc]; omega) (by rw [Int.mul_assoc]; omega)
  have hB0 : Below w.heap.size w (w.alloc (.cells #[.int .i64 P, .slice A n c] 26)) := (Below.refl _ _).alloc (Nat.le_refl _) _
  have k0 : Blk (w.alloc (.cells #[.int .i64 P, .slice A n c] 26)) w.heap.size 26 #[.int .i64 P, .slice A n c] := Blk.new _ _ _
  obtain ⟨q0, q1⟩ := k0.two
  clear hA hB hi hR hs hu hv ha hx hy HP
  go_enter Tryz.func174, Tryz.ntmps174
  go_wp2
  refine wp_obs 18 [[], [0], [], [], [], [], [], [4, 5, 6], [4, 5, 6, 7], [], [9], [], [], [11, 12], [9, 10, 11, 12, 13], [4, 5, 6, 7, 8, 9, 10, 11, 12, 13, 14], [0, 1, 2, 3, 4, 5, 6, 7, 8, 9, 10, 11, 12, 13, 14, 15], [0, 1, 2, 3, 4, 5, 6, 7, 8, 9, 10, 11, 12, 13, 14, 15, 16]] [VIs (.agg #[.int .i64 P, .slice A n c]), VIs (.int .i64 (P)), VIs (.slice Y n cy), VIs (.slice U n cu), VIs (.agg #[.int .i64 P, .slice A n c]), VIs (.slice U n cu), VIs (.slice Y n cy), VIs (.int .i64 (a)), VIs (.int .i64 (-2 * a)), VIs (.agg #[.int .i64 P, .slice A n c]), VIs (.int .i64 (P)), VIs (.agg #[.int .i64 P, .slice A n c]), VIs (.slice U n cu), VIs (.int .i64 (b)), VIs (.int .i64 (i)), VIs (.int .i64 (-2 * a * i)), VSl w n R, VSl w n R] (fun w' => Blk w' w.heap.size 26 #[.int .i64 P, .slice A n c] ∧ Below w.heap.size w w') (by kernel_rfl) (by kernel_rfl) (fun _ _ h hb => ⟨h.1.below hb h.1.lt, h.2.trans (hb.mono h.2.size)⟩) (⟨k0.drew, hB0.drew⟩) (fun x => ?_)
  refine obs_step (Eq.trans (by simp only [List.getElem?_toArray, List.getElem?_cons_zero]; exact rfl) rfl) rfl (fun w' hS hV K hK => ?_) ?_
  · obtain ⟨q0, q1⟩ := hS.1.two
    go_simp
    exact hK.out _ _ _ rfl rfl rfl (Below.refl _ _)
  simp only [List.setIfInBounds_toArray, List.set_cons_zero, List.set_cons_succ]
  refine obs_step (Eq.trans (by simp only [List.getElem?_toArray, List.getElem?_cons_succ, List.getElem?_cons_zero]; exact rfl) rfl) rfl (fun w' hS hV K hK => ?_) ?_
  · have e0 : x 0 = (.agg #[.int .i64 P, .slice A n c]) := hV 0 (by decide)
    obtain ⟨q0, q1⟩ := hS.1.two
    go_simp
    refine (field_any _ _ _ _ _).mono ?_
    rintro e v1 ⟨rfl, hb⟩
    exact hK.out _ _ _ rfl rfl rfl hb
  simp only [List.setIfInBounds_toArray, List.set_cons_zero, List.set_cons_succ]
  refine obs_step (Eq.trans (by simp only [List.getElem?_toArray, List.getElem?_cons_succ, List.getElem?_cons_zero]; exact rfl) rfl) rfl (fun w' hS hV K hK => ?_) ?_
  · obtain ⟨q0, q1⟩ := hS.1.two
    go_simp
    exact hK.out _ _ _ rfl rfl rfl (Below.refl _ _)
  simp only [List.setIfInBounds_toArray, List.set_cons_zero, List.set_cons_succ]
  refine obs_step (Eq.trans (by simp only [List.getElem?_toArray, List.getElem?_cons_succ, List.getElem?_cons_zero]; exact rfl) rfl) rfl (fun w' hS hV K hK => ?_) ?_
  · obtain ⟨q0, q1⟩ := hS.1.two
    go_simp
    exact hK.out _ _ _ rfl rfl rfl (Below.refl _ _)
  simp only [List.setIfInBounds_toArray, List.set_cons_zero, List.set_cons_succ]
  refine obs_step (Eq.trans (by simp only [List.getElem?_toArray, List.getElem?_cons_succ, List.getElem?_cons_zero]; exact rfl) rfl) rfl (fun w' hS hV K hK => ?_) ?_
  · obtain ⟨q0, q1⟩ := hS.1.two
    go_simp
    exact hK.out _ _ _ rfl rfl rfl (Below.refl _ _)
  simp only [List.setIfInBounds_toArray, List.set_cons_zero, List.set_cons_succ]
  refine obs_step (Eq.trans (by simp only [List.getElem?_toArray, List.getElem?_cons_succ, List.getElem?_cons_zero]; exact rfl) rfl) rfl (fun w' hS hV K hK => ?_) ?_
  · obtain ⟨q0, q1⟩ := hS.1.two
    go_simp
    exact hK.out _ _ _ rfl rfl rfl (Below.refl _ _)
  simp only [List.setIfInBounds_toArray, List.set_cons_zero, List.set_cons_succ]
  refine obs_step (Eq.trans (by simp only [List.getElem?_toArray, List.getElem?_cons_succ, List.getElem?_cons_zero]; exact rfl) rfl) rfl (fun w' hS hV K hK => ?_) ?_
  · obtain ⟨q0, q1⟩ := hS.1.two
    go_simp
    exact hK.out _ _ _ rfl rfl rfl (Below.refl _ _)
  simp only [List.setIfInBounds_toArray, List.set_cons_zero, List.set_cons_succ]
  refine obs_step (Eq.trans (by simp only [List.getElem?_toArray, List.getElem?_cons_succ, List.getElem?_cons_zero]; exact rfl) rfl) rfl (fun w' hS hV K hK => ?_) ?_
  · have e4 : x 4 = (.agg #[.int .i64 P, .slice A n c]) := hV 4 (by decide)
    have e5 : x 5 = (.slice U n cu) := hV 5 (by decide)
    have e6 : x 6 = (.slice Y n cy) := hV 6 (by decide)
    obtain ⟨q0, q1⟩ := hS.1.two
    go_simp
    refine (HPR.out _ hS.2).mono ?_
    rintro e v1 ⟨rfl, hb⟩
    exact hK.out _ _ _ rfl rfl rfl hb
  simp only [List.setIfInBounds_toArray, List.set_cons_zero, List.set_cons_succ]
  refine obs_step (Eq.trans (by simp only [List.getElem?_toArray, List.getElem?_cons_succ, List.getElem?_cons_zero]; exact rfl) rfl) rfl (fun w' hS hV K hK => ?_) ?_
  · have e4 : x 4 = (.agg #[.int .i64 P, .slice A n c]) := hV 4 (by decide)
    have e5 : x 5 = (.slice U n cu) := hV 5 (by decide)
    have e6 : x 6 = (.slice Y n cy) := hV 6 (by decide)
    have e7 : x 7 = (.int .i64 (a)) := hV 7 (by decide)
    obtain ⟨q0, q1⟩ := hS.1.two
    go_simp
    exact hK.out _ _ _ rfl rfl rfl (Below.refl _ _)
  simp only [List.setIfInBounds_toArray, List.set_cons_zero, List.set_cons_succ]
  refine obs_step (Eq.trans (by simp only [List.getElem?_toArray, List.getElem?_cons_succ, List.getElem?_cons_zero]; exact rfl) rfl) rfl (fun w' hS hV K hK => ?_) ?_
  · obtain ⟨q0, q1⟩ := hS.1.two
    go_simp
    exact hK.out _ _ _ rfl rfl rfl (Below.refl _ _)
  simp only [List.setIfInBounds_toArray, List.set_cons_zero, List.set_cons_succ]
  refine obs_step (Eq.trans (by simp only [List.getElem?_toArray, List.getElem?_cons_succ, List.getElem?_cons_zero]; exact rfl) rfl) rfl (fun w' hS hV K hK => ?_) ?_
  · have e9 : x 9 = (.agg #[.int .i64 P, .slice A n c]) := hV 9 (by decide)
    obtain ⟨q0, q1⟩ := hS.1.two
    go_simp
    refine (field_any _ _ _ _ _).mono ?_
    rintro e v1 ⟨rfl, hb⟩
    exact hK.out _ _ _ rfl rfl rfl hb
  simp only [List.setIfInBounds_toArray, List.set_cons_zero, List.set_cons_succ]
  refine obs_step (Eq.trans (by simp only [List.getElem?_toArray, List.getElem?_cons_succ, List.getElem?_cons_zero]; exact rfl) rfl) rfl (fun w' hS hV K hK => ?_) ?_
  · obtain ⟨q0, q1⟩ := hS.1.two
    go_simp
    exact hK.out _ _ _ rfl rfl rfl (Below.refl _ _)
  simp only [List.setIfInBounds_toArray, List.set_cons_zero, List.set_cons_succ]
  refine obs_step (Eq.trans (by simp only [List.getElem?_toArray, List.getElem?_cons_succ, List.getElem?_cons_zero]; exact rfl) rfl) rfl (fun w' hS hV K hK => ?_) ?_
  · obtain ⟨q0, q1⟩ := hS.1.two
    go_simp
    exact hK.out _ _ _ rfl rfl rfl (Below.refl _ _)
  simp only [List.setIfInBounds_toArray, List.set_cons_zero, List.set_cons_succ]
  refine obs_step (Eq.trans (by simp only [List.getElem?_toArray, List.getElem?_cons_succ, List.getElem?_cons_zero]; exact rfl) rfl) rfl (fun w' hS hV K hK => ?_) ?_
  · have e11 : x 11 = (.agg #[.int .i64 P, .slice A n c]) := hV 11 (by decide)
    have e12 : x 12 = (.slice U n cu) := hV 12 (by decide)
    obtain ⟨q0, q1⟩ := hS.1.two
    go_simp
    refine (HNR.out _ hS.2).mono ?_
    rintro e v1 ⟨rfl, hb⟩
    exact hK.out _ _ _ rfl rfl rfl hb
  simp only [List.setIfInBounds_toArray, List.set_cons_zero, List.set_cons_succ]
  refine obs_step (Eq.trans (by simp only [List.getElem?_toArray, List.getElem?_cons_succ, List.getElem?_cons_zero]; exact rfl) rfl) rfl (fun w' hS hV K hK => ?_) ?_
  · have e9 : x 9 = (.agg #[.int .i64 P, .slice A n c]) := hV 9 (by decide)
    have e10 : x 10 = (.int .i64 (P)) := hV 10 (by decide)
    have e11 : x 11 = (.agg #[.int .i64 P, .slice A n c]) := hV 11 (by decide)
    have e12 : x 12 = (.slice U n cu) := hV 12 (by decide)
    have e13 : x 13 = (.int .i64 (b)) := hV 13 (by decide)
    obtain ⟨q0, q1⟩ := hS.1.two
    go_simp
    refine (HIN.out _).mono ?_
    rintro e v1 ⟨rfl, rfl⟩
    exact hK.out _ _ _ rfl rfl rfl (Below.refl _ _)
  simp only [List.setIfInBounds_toArray, List.set_cons_zero, List.set_cons_succ]
  refine obs_step (Eq.trans (by simp only [List.getElem?_toArray, List.getElem?_cons_succ, List.getElem?_cons_zero]; exact rfl) rfl) rfl (fun w' hS hV K hK => ?_) ?_
  · have e4 : x 4 = (.agg #[.int .i64 P, .slice A n c]) := hV 4 (by decide)
    have e5 : x 5 = (.slice U n cu) := hV 5 (by decide)
    have e6 : x 6 = (.slice Y n cy) := hV 6 (by decide)
    have e7 : x 7 = (.int .i64 (a)) := hV 7 (by decide)
    have e8 : x 8 = (.int .i64 (-2 * a)) := hV 8 (by decide)
    have e9 : x 9 = (.agg #[.int .i64 P, .slice A n c]) := hV 9 (by decide)
    have e10 : x 10 = (.int .i64 (P)) := hV 10 (by decide)
    have e11 : x 11 = (.agg #[.int .i64 P, .slice A n c]) := hV 11 (by decide)
    have e12 : x 12 = (.slice U n cu) := hV 12 (by decide)
    have e13 : x 13 = (.int .i64 (b)) := hV 13 (by decide)
    have e14 : x 14 = (.int .i64 (i)) := hV 14 (by decide)
    obtain ⟨q0, q1⟩ := hS.1.two
    go_simp
    exact hK.out _ _ _ rfl rfl rfl (Below.refl _ _)
  simp only [List.setIfInBounds_toArray, List.set_cons_zero, List.set_cons_succ]
  refine obs_step (Eq.trans (by simp only [List.getElem?_toArray, List.getElem?_cons_succ, List.getElem?_cons_zero]; exact rfl) rfl) rfl (fun w' hS hV K hK => ?_) ?_
  · have e0 : x 0 = (.agg #[.int .i64 P, .slice A n c]) := hV 0 (by decide)
    have e1 : x 1 = (.int .i64 (P)) := hV 1 (by decide)
    have e2 : x 2 = (.slice Y n cy) := hV 2 (by decide)
    have e3 : x 3 = (.slice U n cu) := hV 3 (by decide)
    have e4 : x 4 = (.agg #[.int .i64 P, .slice A n c]) := hV 4 (by decide)
    have e5 : x 5 = (.slice U n cu) := hV 5 (by decide)
    have e6 : x 6 = (.slice Y n cy) := hV 6 (by decide)
    have e7 : x 7 = (.int .i64 (a)) := hV 7 (by decide)
    have e8 : x 8 = (.int .i64 (-2 * a)) := hV 8 (by decide)
    have e9 : x 9 = (.agg #[.int .i64 P, .slice A n c]) := hV 9 (by decide)
    have e10 : x 10 = (.int .i64 (P)) := hV 10 (by decide)
    have e11 : x 11 = (.agg #[.int .i64 P, .slice A n c]) := hV 11 (by decide)
    have e12 : x 12 = (.slice U n cu) := hV 12 (by decide)
    have e13 : x 13 = (.int .i64 (b)) := hV 13 (by decide)
    have e14 : x 14 = (.int .i64 (i)) := hV 14 (by decide)
    have e15 : x 15 = (.int .i64 (-2 * a * i)) := hV 15 (by decide)
    obtain ⟨q0, q1⟩ := hS.1.two
    go_simp
    refine (HPL.out _ hS.2).mono ?_
    rintro e v1 ⟨A2, c2, rfl, hM⟩
    exact hK.out _ _ _ rfl rfl ⟨_, _, rfl, hM.after hS.2⟩ hM.b
  simp only [List.setIfInBounds_toArray, List.set_cons_zero, List.set_cons_succ]
  refine obs_step (Eq.trans (by simp only [List.getElem?_toArray, List.getElem?_cons_succ, List.getElem?_cons_zero]; exact rfl) rfl) rfl (fun w' hS hV K hK => ?_) ?_
  · have e0 : x 0 = (.agg #[.int .i64 P, .slice A n c]) := hV 0 (by decide)
    have e1 : x 1 = (.int .i64 (P)) := hV 1 (by decide)
    have e2 : x 2 = (.slice Y n cy) := hV 2 (by decide)
    have e3 : x 3 = (.slice U n cu) := hV 3 (by decide)
    have e4 : x 4 = (.agg #[.int .i64 P, .slice A n c]) := hV 4 (by decide)
    have e5 : x 5 = (.slice U n cu) := hV 5 (by decide)
    have e6 : x 6 = (.slice Y n cy) := hV 6 (by decide)
    have e7 : x 7 = (.int .i64 (a)) := hV 7 (by decide)
    have e8 : x 8 = (.int .i64 (-2 * a)) := hV 8 (by decide)
    have e9 : x 9 = (.agg #[.int .i64 P, .slice A n c]) := hV 9 (by decide)
    have e10 : x 10 = (.int .i64 (P)) := hV 10 (by decide)
    have e11 : x 11 = (.agg #[.int .i64 P, .slice A n c]) := hV 11 (by decide)
    have e12 : x 12 = (.slice U n cu) := hV 12 (by decide)
    have e13 : x 13 = (.int .i64 (b)) := hV 13 (by decide)
    have e14 : x 14 = (.int .i64 (i)) := hV 14 (by decide)
    have e15 : x 15 = (.int .i64 (-2 * a * i)) := hV 15 (by decide)
    obtain ⟨A16, c16, e16, h16⟩ := hV 16 (by decide)
    obtain ⟨q0, q1⟩ := hS.1.two
    go_simp
    exact hK.out _ _ _ rfl rfl ⟨_, _, rfl, h16⟩ (Below.refl _ _)
  simp only [List.setIfInBounds_toArray, List.set_cons_zero, List.set_cons_succ]
  refine fun w' hS hV => ?_
  have e0 : x 0 = (.agg #[.int .i64 P, .slice A n c]) := hV 0 (by decide)
  have e1 : x 1 = (.int .i64 (P)) := hV 1 (by decide)
  have e2 : x 2 = (.slice Y n cy) := hV 2 (by decide)
  have e3 : x 3 = (.slice U n cu) := hV 3 (by decide)
  have e4 : x 4 = (.agg #[.int .i64 P, .slice A n c]) := hV 4 (by decide)
  have e5 : x 5 = (.slice U n cu) := hV 5 (by decide)
  have e6 : x 6 = (.slice Y n cy) := hV 6 (by decide)
  have e7 : x 7 = (.int .i64 (a)) := hV 7 (by decide)
  have e8 : x 8 = (.int .i64 (-2 * a)) := hV 8 (by decide)
  have e9 : x 9 = (.agg #[.int .i64 P, .slice A n c]) := hV 9 (by decide)
  have e10 : x 10 = (.int .i64 (P)) := hV 10 (by decide)
  have e11 : x 11 = (.agg #[.int .i64 P, .slice A n c]) := hV 11 (by decide)
  have e12 : x 12 = (.slice U n cu) := hV 12 (by decide)
  have e13 : x 13 = (.int .i64 (b)) := hV 13 (by decide)
  have e14 : x 14 = (.int .i64 (i)) := hV 14 (by decide)
  have e15 : x 15 = (.int .i64 (-2 * a * i)) := hV 15 (by decide)
  obtain ⟨A16, c16, e16, h16⟩ := hV 16 (by decide)
  obtain ⟨A17, c17, e17, h17⟩ := hV 17 (by decide)
  simp only [e0, e1, e2, e3, e4, e5, e6, e7, e8, e9, e10, e11, e12, e13, e14, e15, e16, e17]
  clear e0 e1 e2 e3 e4 e5 e6 e7 e8 e9 e10 e11 e12 e13 e14 e15 e16 e17
  refine wpAny_done (by kernel_rfl) ?_ _
  go_wp2
  go_ret
  exact ⟨_, _, rfl, HR.out ▸ h17⟩
end Go.Proofs.YtggigolkncckoaaGreat
namespace Go.Proofs.YtggigolkncckoaaGreat
open Go.RowKit
/-- The code of a regular space and of vectors. -/
def codeVb (P : Int) (sq : List Int) (vs : List (List Int)) : Int := if codeV P sq vs = 0 then (if regB sq then 0 else 5) else codeV P sq vs
theorem codeVs_no (P : Int) (sq : List Int) (vs : List (List Int)) : codeVs P sq [] vs = codeVb P sq vs := by
  unfold codeVs codeVb
  by_cases h : isSp P sq = true
  · have : codeM P sq [] = 0 := by unfold codeM; simp [h]
    rw [if_pos this]
  · have h1 : codeM P sq [] = 1 := by unfold codeM; rw [if_neg h]
    have h2 : codeV P sq vs = 1 := by unfold codeV; rw [if_neg h]
    rw [h1, h2]; rfl
theorem codeV_mk {P : Int} {sq : List Int} {vs : List (List Int)} (h1 : isSp P sq = true) (h : ∀ v ∈ vs, isVe P sq v = true) : codeV P sq vs = 0 := by
  unfold codeV
  rw [if_pos h1, if_neg]
  intro hh
  obtain ⟨v, hv, e⟩ := List.any_eq_true.1 hh
  rw [h v hv] at e
  cases e
theorem isVe_mk {P : Int} {sq ys : List Int} (h1 : ys.length = sq.length) (h2 : NumsL P ys) : isVe P sq ys = true := by
  unfold isVe nums
  rw [h1, Bool.and_eq_true]
  refine ⟨by simp, List.all_eq_true.2 fun x hx => ?_⟩
  have := h2 x hx
  simp [inR]
  omega
theorem checkVersV_any (P : Int) (A C : Option Addr) (n c l f : Nat) (sq : List Int) (vs : List (List Int)) (w : World) (hn : n ≤ 1048576) (hl : l ≤ 1048576) (ha : Rd w A n (ints sq)) (hc : RdII w C l vs) (hvs : ∀ ys ∈ vs, ys.length ≤ 1048576) :
    Calls Tryz.prog 150 #[.agg #[.int .i64 P, .slice A n c], .slice none 0 0, .slice C l f] w fun e w' => e = .returned (.int .i64 (codeVb P sq vs)) ∧ Below w.heap.size w w' := by
  have h := checkVersors_any P A none C n c 0 0 l f sq [] vs w hn (by omega) hl ha ⟨[], Rd.nil _ _, rfl, fun k h => absurd h (by simp)⟩ (by simp) hc hvs
  rwa [codeVs_no] at h
end Go.Proofs.YtggigolkncckoaaGreat
namespace Go.Proofs.YtggigolkncckoaaGreat
open Go.RowKit
set_option maxHeartbeats 1600000 in
theorem NormOf_ok (P : Int) (A : Option Addr) (n c : Nat) (sq : List Int) (X : Option Addr) (cx : Nat) (v : List Int) (w : World) (hsp : isSp P sq = true) (ha : Rd w A n (ints sq)) (hx : Rd w X n (ints v)) (hcx : n ≤ cx) (hv : NumsL P v) :
    Calls Tryz.prog 36 #[.agg #[.int .i64 P, .slice A n c], .slice X n cx] w fun e w' => e = .returned (.tuple #[.int .i64 (pairL P sq v v), .int .i64 0]) ∧ Below w.heap.size w w' := by
  have hB0 : Below w.heap.size w (w.alloc (.cells #[.int .i64 P, .slice A n c] 26)) := (Below.refl _ _).alloc (Nat.le_refl _) _
  have k0 : Blk (w.alloc (.cells #[.int .i64 P, .slice A n c] 26)) w.heap.size 26 #[.int .i64 P, .slice A n c] := Blk.new _ _ _
  have hsl := ha.lenI
  obtain ⟨HP, hd1, hd2, hnum⟩ := isSp_dim hsp
  obtain ⟨hp3, hp2⟩ := isP_ge HP
  have hB1 : Below w.heap.size w ((w.alloc (.cells #[.int .i64 P, .slice A n c] 26)).alloc (.cells #[.slice X n cx] 24)) := hB0.alloc (by simp) _
  have k1 : Blk ((w.alloc (.cells #[.int .i64 P, .slice A n c] 26)).alloc (.cells #[.slice X n cx] 24)) w.heap.size 26 #[.int .i64 P, .slice A n c] := k0.alloc _
  have hck := checkVectors_any P A (some ⟨w.heap.size + 1, 0, none⟩) n c 1 1 sq [v] ((w.alloc (.cells #[.int .i64 P, .slice A n c] 26)).alloc (.cells #[.slice X n cx] 24)) (by omega) (by omega) (ha.below hB1) (rdII_one' (Blk.newAt3 (by simp)) (hx.below hB1) hcx) (all_one (by rw [hx.lenI]; omega))
  rw [codeV_mk hsp (all_one (isVe_mk (by rw [hx.lenI, hsl]) hv))] at hck
  have HN := Lib.hid (nums_numsL hnum)
  have HVN := Lib.hid hv
  rw [hsl] at hd1 hd2
  obtain ⟨q0, q1⟩ := k1.two
  clear hsl hnum hv hsp k0 hB0
  go_enter Tryz.func36, Tryz.ntmps36
  go_wp2_with fail
  refine hck.mono ?_
  rintro e w2 ⟨rfl, hb2⟩
  have hB2 := hB1.trans (hb2.mono hB1.size)
  have k2 := k1.below hb2 k1.lt
  clear q0 q1 hck
  obtain ⟨q0, q1⟩ := k2.two
  go_wp2_with fail
  refine (norm_any P A n c sq X cx v w2 (by omega) hp2 (by omega) (ha.below hB2) HN.out (hx.below hB2) HVN.out).mono ?_
  rintro e w3 ⟨rfl, hb3⟩
  go_wp2
  go_ret2
  exact ⟨rfl, hB2.trans (hb3.mono hB2.size)⟩
set_option maxHeartbeats 1600000 in
theorem IsRegular_ok (P : Int) (A : Option Addr) (n c : Nat) (sq : List Int) (w : World) (hsp : isSp P sq = true) (hn : n ≤ 1048576) (ha : Rd w A n (ints sq)) :
    Calls Tryz.prog 35 #[.agg #[.int .i64 P, .slice A n c]] w fun e w' => e = .returned (.tuple #[.bool (regB sq), .int .i64 0]) ∧ Below w.heap.size w w' := by
  have hB0 : Below w.heap.size w (w.alloc (.cells #[.int .i64 P, .slice A n c] 26)) := (Below.refl _ _).alloc (Nat.le_refl _) _
  have k0 : Blk (w.alloc (.cells #[.int .i64 P, .slice A n c] 26)) w.heap.size 26 #[.int .i64 P, .slice A n c] := Blk.new _ _ _
  have his := IsSpace_any P A n c sq (w.alloc (.cells #[.int .i64 P, .slice A n c] 26)) (by omega) (ha.below hB0)
  rw [hsp] at his
  have hrg := fun w' (h : Below w.heap.size w w') => regular_any P A n c sq w' hn (ha.below h)
  obtain ⟨rb, hrb⟩ : ∃ b, b = regB sq := ⟨_, rfl⟩
  rw [← hrb] at hrg ⊢
  obtain ⟨q0, q1⟩ := k0.two
  clear hrb hsp
  go_enter Tryz.func35, Tryz.ntmps35
  go_wp2_with fail
  refine his.mono ?_
  rintro e w2 ⟨rfl, hb2⟩
  have hB2 := hB0.trans (hb2.mono hB0.size)
  have k2 := k0.below hb2 k0.lt
  clear q0 q1 his
  obtain ⟨q0, q1⟩ := k2.two
  go_wp2_with fail
  refine (hrg _ hB2).mono ?_
  rintro e w3 ⟨rfl, hb3⟩
  go_wp2
  go_ret2
  exact ⟨rfl, hB2.trans (hb3.mono hB2.size)⟩
end Go.Proofs.YtggigolkncckoaaGreat
namespace Go.Proofs.YtggigolkncckoaaGreat
open Go.RowKit
theorem RdII.nil (w : World) (A : Option Addr) : RdII w A 0 [] := ⟨[], Rd.nil w A, rfl, fun k h => absurd h (by simp)⟩
end Go.Proofs.YtggigolkncckoaaGreat
namespace Go.Proofs.YtggigolkncckoaaGreat
section
variable {p : Int} {sq : List Int}
theorem cg_wit {p a b : Int} : a % p = b % p ↔ ∃ k, a = b + p * k := by
  constructor
  · intro h
    have h1 := Int.emod_add_mul_ediv a p
    have h2 := Int.emod_add_mul_ediv b p
    exact ⟨a / p - b / p, by grind⟩
  · rintro ⟨k, rfl⟩
    rw [Int.add_mul_emod_self_left]
end
end Go.Proofs.YtggigolkncckoaaGreat
namespace Go.Proofs.YtggigolkncckoaaGreat
section
variable {p : Int} {sq : List Int}
instance : Std.Associative (α := Cl p sq) (· + ·) := ⟨Cl.add_assoc⟩
instance : Std.Commutative (α := Cl p sq) (· + ·) := ⟨Cl.add_comm⟩
theorem vec_inj (hp : 0 < p) {u v : List Int} (hu : NumsL p u) (lu : u.length = sq.length) (hv : NumsL p v) (lv : v.length = sq.length) (h : (Cl.vec hp u : Cl p sq) = Cl.vec hp v) : u = v := by
  rw [← Cl.vec_at hp hu lu, h, Cl.vec_at hp hv lv]
theorem half_two (hP : isP p = true) : 2 * invF p 2 % p = 1 % p := by
  have h3 := (isP_ge hP).1
  have := inv_mod hP (a := 2) (by rw [Int.emod_eq_of_lt (by omega) (by omega)]; decide)
  rw [Int.emod_eq_of_lt (by omega) (show (2 : Int) < p by omega)] at this
  rw [this, Int.emod_eq_of_lt (by omega) (by omega)]
end
end Go.Proofs.YtggigolkncckoaaGreat
namespace Go.Proofs.YtggigolkncckoaaGreat
section
variable {p : Int} {sq : List Int}
theorem Cl.prod_append (hp : 0 < p) (a b : List (List Int)) : (Cl.prod hp (a ++ b) : Cl p sq) = Cl.prod hp a * Cl.prod hp b := by
  unfold Cl.prod
  rw [List.foldl_append]
  exact Cl.prod_from hp b _
/-- What a reflection does to products. -/
theorem bil_plus2 {w v : List Int} (hw : w.length = sq.length) (k : Int) : bil sq (plusL p w v k) (plusL p w v k) % p = (bil sq w w + 2 * k * bil sq v w + k * k * bil sq v v) % p := by
  have e1 : bil sq (plusL p w v k) (plusL p w v k) % p = _ := bil_plus hw k
  have e2 : bil sq (plusL p w v k) w % p = _ := bil_plus hw k
  have e3 : bil sq (plusL p w v k) v % p = _ := bil_plus hw k
  rw [bil_symm sq w, bil_symm sq v] at e1
  rw [bil_symm sq w v] at e3
  obtain ⟨r1, e1⟩ := cg_wit.1 e1
  obtain ⟨r2, e2⟩ := cg_wit.1 e2
  obtain ⟨r3, e3⟩ := cg_wit.1 e3
  exact cg_wit.2 ⟨r1 + r2 + k * r3, by grind⟩
theorem rflL_reflF (hP : isP p = true) {u v : List Int} (hu : u.length = sq.length) : rflL p sq u v = reflF p sq u v := by
  have h3 := (isP_ge hP).1
  have h1 := pairL_bil (p := p) (u := v) hu
  have h2 := pairL_bil (p := p) (u := u) hu
  have hs := pairL_small (P := p) (by omega) sq u u
  rw [Int.emod_eq_of_lt hs.1 hs.2] at h2
  unfold rflL reflF
  rw [h2]
  refine plusL_mod p v u ?_
  obtain ⟨k, hk⟩ := cg_wit.1 h1
  exact cg_wit.2 ⟨-(2 * k * invF p (bil sq u u % p)), by grind⟩
/-- A good list of vectors: of the right length, numbers, norms other than 0. -/
def Good (p : Int) (sq : List Int) (L : List (List Int)) : Prop := ∀ v ∈ L, v.length = sq.length ∧ NumsL p v ∧ bil sq v v % p ≠ 0
theorem Good.ne {L : List (List Int)} (h : Good p sq L) : ∀ v ∈ L, bil sq v v % p ≠ 0 := fun v hv => (h v hv).2.2
theorem Good.nums {L : List (List Int)} (h : Good p sq L) : ∀ v ∈ L, NumsL p v := fun v hv => (h v hv).2.1
end
end Go.Proofs.YtggigolkncckoaaGreat
namespace Go.Proofs.YtggigolkncckoaaGreat
section
variable {P : Int} {sq : List Int} {n : Nat} {xs : List Int}
theorem orth_trans {p : Int} {N K : Nat} {M : List (List Int)} (hT : Tab p N M) (hl : M.length = K) (h0 : 0 < K) (v : Nat → Int) : Orth p K (transL M) v ↔ ∀ i, i < N → (sumTo K fun q => ent M q i * v q) % p = 0 := by
  unfold Orth
  rw [transL_len hT (by omega)]
  refine forall_congr' fun i => forall_congr' fun hi => ?_
  have : (sumTo K fun q => ent (transL M) i q * v q) = sumTo K fun q => ent M q i * v q := sumTo_congr fun q hq => by
    have e : ent (transL M) i q = ent M q i := by
      show ((transL M).getD i []).getD q 0 = _
      unfold transL
      rw [row0_len hT (by omega), tab_getD hi, tab_getD (by omega)]
    rw [e]
  rw [this]
end
end Go.Proofs.YtggigolkncckoaaGreat
namespace Go.Proofs.YtggigolkncckoaaGreat
section
variable {p : Int} {sq : List Int}
/-- The multivector with 1 at one place. -/
def Cl.at_ (hp : 0 < p) (m : Nat) : Cl p sq := Cl.of hp fun q => if q = m then 1 else 0
theorem Cl.zero_all (hp : 0 < p) : ∀ y ∈ (Cl.zero hp : Cl p sq).l, y = 0 := fun y hy => by
  obtain ⟨i, hi, rfl⟩ := List.getElem_of_mem hy
  rw [Cl.len] at hi
  have h := Cl.zero_co (sq := sq) hp hi
  rw [Cl.co_mod] at h
  unfold Cl.co at h
  rw [getD_of_lt 0 (by rw [Cl.len]; exact hi)] at h
  exact h
end
end Go.Proofs.YtggigolkncckoaaGreat
namespace Go.Proofs.YtggigolkncckoaaGreat
/-- All squares 0. -/
abbrev zs (n : Nat) : List Int := List.replicate n 0
theorem zs_len (n : Nat) : (zs n).length = n := List.length_replicate
theorem zs_get (n i : Nat) : (zs n).getD i 0 = 0 := by
  rw [List.getD_eq_getElem?_getD, List.getElem?_replicate]; split <;> rfl
theorem comZ_apart (sq : List Int) {a b : Nat} (h : ∀ i, ¬ (bit b i = 1 ∧ bit a i = 1)) : ∀ k, comZ sq a b k = 1 := by
  intro k
  induction k with
  | zero => rfl
  | succ k ih => simp only [comZ]; rw [ih, if_neg (h k)]; rfl
theorem comZ_hit (n : Nat) {a b i : Nat} (h : bit b i = 1 ∧ bit a i = 1) : ∀ k, i < k → comZ (zs n) a b k = 0 := by
  intro k
  induction k with
  | zero => intro h; omega
  | succ k ih =>
    intro hk
    simp only [comZ]
    by_cases e : i = k
    · subst e; rw [if_pos h, zs_get, Int.mul_zero]
    · rw [ih (by omega), Int.zero_mul]
theorem and_zero_iff (a b : Nat) : (a &&& b = 0) ↔ ∀ i, ¬ (bit b i = 1 ∧ bit a i = 1) := by
  constructor
  · intro h i hi
    have := congrArg (fun x => x.testBit i) h
    simp only [Nat.testBit_and, Nat.zero_testBit, (bit_iff a i).1 hi.2, (bit_iff b i).1 hi.1] at this
    exact absurd this (by decide)
  · intro h
    refine Nat.eq_of_testBit_eq fun i => ?_
    rw [Nat.testBit_and, Nat.zero_testBit]
    cases ha : a.testBit i
    · rfl
    · cases hb : b.testBit i
      · rfl
      · exact absurd ⟨(bit_iff b i).2 hb, (bit_iff a i).2 ha⟩ (h i)
theorem facZ_apart {sq : List Int} {n a b : Nat} (hn : sq.length = n) (h : a &&& b = 0) : facZ sq a b = facZ (zs n) a b := by
  unfold facZ
  rw [hn, zs_len, comZ_apart sq ((and_zero_iff a b).1 h), comZ_apart (zs n) ((and_zero_iff a b).1 h)]
theorem facZ_hit {n a b : Nat} (ha : a < pw n) (h : ¬ a &&& b = 0) : facZ (zs n) a b = 0 := by
  unfold facZ
  rw [zs_len]
  have h1 : ¬ ∀ i, ¬ (bit b i = 1 ∧ bit a i = 1) := fun h2 => h ((and_zero_iff a b).2 h2)
  obtain ⟨i, hi⟩ := Classical.not_forall.1 h1
  have hi' := Classical.not_not.1 hi
  have hin : i < n := by
    rcases Nat.lt_or_ge i n with h | h
    · exact h
    · have := bit_high (b := a) (n := n) ha h
      rw [this] at hi'
      exact absurd hi'.2 (by decide)
  rw [comZ_hit n hi' n hin, Int.mul_zero]
section
variable {p : Int} {n : Nat}
/-- Outer products are products with all squares 0. -/
theorem wedge_mul {sq : List Int} (hn : sq.length = n) {xs ys : List Int} (hx : xs.length = pw n) (hy : ys.length = pw n) : wedgeL p sq xs ys = mulL p (zs n) xs ys := by
  refine list_ext_getD 0 (by rw [wedgeL_len, mulL_len]) fun m hm => ?_
  rw [wedgeL_len, hx] at hm
  unfold wedgeL mulL
  rw [prodL_getD p sq _ xs ys n m hx hy hm, prodL_getD p (zs n) _ xs ys n m hx hy hm]
  refine sumTo_mod p fun a ha => ?_
  unfold term
  by_cases h : a &&& (a ^^^ m) = 0
  · have hb : (fun a b : Nat => a &&& b == 0) a (a ^^^ m) = true := by show (a &&& (a ^^^ m) == 0) = true; rw [h]; rfl
    rw [if_pos hb, if_pos rfl, Int.mul_emod, fac_facZ, facZ_apart hn h, ← fac_facZ, ← Int.mul_emod]
  · rw [if_neg (by simpa using h), if_pos rfl, Int.mul_emod, fac_facZ, facZ_hit ha h, Int.zero_emod, Int.mul_zero, Int.zero_emod]
theorem wedge_cl' {sq : List Int} (hn : sq.length = n) (x y : Cl p (zs n)) : wedgeL p sq x.l y.l = (x * y).l := by
  rw [wedge_mul hn (x.len.trans (by rw [zs_len])) (y.len.trans (by rw [zs_len])), Cl.mul_l]
theorem bil_zs (u v : List Int) : bil (zs n) u v = 0 := by
  unfold bil
  exact sumTo_zero fun i _ => by rw [zs_get, Int.mul_zero]
theorem Cl.zz (hp : 0 < p) (hP : isP p = true) (v : List Int) : (Cl.vec hp v : Cl p (zs n)) * Cl.vec hp v = Cl.zero hp := by
  rw [Cl.vec_sq hp hP, bil_zs, Cl.zero_sm]
theorem Cl.za (hp : 0 < p) (u v : List Int) : (Cl.vec hp u : Cl p (zs n)) * Cl.vec hp v = (-1 : Int) * (Cl.vec hp v * Cl.vec hp u) := by
  have h := Cl.vec_anti hp u v (sq := zs n)
  rw [bil_zs, Int.mul_zero, Cl.zero_sm] at h
  have e := Cl.add_back ((Cl.vec hp u : Cl p (zs n)) * Cl.vec hp v) (Cl.vec hp v * Cl.vec hp u) 1
  rw [Cl.one_sm] at e
  rw [← e, h, Cl.add_comm, Cl.add_zero]
/-- A vector of the list times the product of the list is 0. -/
theorem Cl.in_prod (hp : 0 < p) (hP : isP p = true) : ∀ (L : List (List Int)) (v : List Int), v ∈ L → (Cl.vec hp v : Cl p (zs n)) * Cl.prod hp L = Cl.zero hp
  | [], v, h => by cases h
  | u :: L, v, h => by
    rw [Cl.prod_cons]
    rcases List.mem_cons.1 h with rfl | h
    · rw [← Cl.mul_assoc, Cl.zz hp hP, Cl.zero_mul]
    · rw [← Cl.mul_assoc, Cl.za, Cl.sm_mul, Cl.mul_assoc, Cl.in_prod hp hP L v h, Cl.mul_zero, ← Cl.zero_sm (Cl.one hp), Cl.sm_sm, Int.mul_zero]
theorem Cl.vec_cg (hp : 0 < p) {sq : List Int} {u v : List Int} (h : ∀ q, q < sq.length → u.getD q 0 % p = v.getD q 0 % p) : (Cl.vec hp u : Cl p sq) = Cl.vec hp v := Cl.same fun m hm => by
  rw [Cl.vec_co hp u hm, Cl.vec_co hp v hm]
  exact sumTo_mod p fun i hi => by split
                                   · exact h i hi
                                   · rfl
theorem Cl.sum_mul (hp : 0 < p) {sq : List Int} (y : Cl p sq) (f : Nat → Cl p sq) : ∀ k, Cl.sum hp k f * y = Cl.sum hp k fun i => f i * y := by
  intro k
  induction k with
  | zero => exact Cl.zero_mul hp y
  | succ k ih => show (Cl.sum hp k f + f k) * y = _; rw [Cl.add_mul, ih]; rfl
/-- A vector times a multivector, at a place. -/
theorem Cl.vec_mul_co (hp : 0 < p) {sq : List Int} (v : List Int) (y : Cl p sq) {m : Nat} (hm : m < pw sq.length) : (Cl.vec hp v * y : Cl p sq).co m % p = (sumTo sq.length fun i => v.getD i 0 * y.co (2 ^ i ^^^ m) * facZ sq (2 ^ i) (2 ^ i ^^^ m)) % p := by
  rw [Cl.mul_co _ _ hm, mulZ_cg p sq (fun a ha => Cl.vec_co hp v ha) (fun a ha => rfl) hm]
  unfold mulZ
  rw [sumTo_congr (g := fun a => sumTo sq.length fun i => if a = 2 ^ i then v.getD i 0 * y.co (2 ^ i ^^^ m) * facZ sq (2 ^ i) (2 ^ i ^^^ m) else 0) fun a ha => ?_, sumTo_comm]
  · congr 1
    refine sumTo_congr fun i hi => ?_
    rw [sumTo_one (2 ^ i) (two_lt hi) fun a _ hne => if_neg hne, if_pos rfl]
  · rw [← sumTo_mul_right, ← sumTo_mul_right]
    refine sumTo_congr fun i _ => ?_
    by_cases h : a = 2 ^ i
    · rw [if_pos h, if_pos h, h]
    · rw [if_neg h, if_neg h, Int.zero_mul, Int.zero_mul]
theorem pow_and (i m : Nat) : (2 ^ i &&& (2 ^ i ^^^ m) = 0) ↔ m.testBit i = true := by
  have h := and_pow_zero m i
  rw [Nat.and_comm, Nat.xor_comm]
  constructor
  · intro e; rw [← h, e]; rfl
  · intro e; rw [e] at h; simpa using h
theorem wedges_prod {sq : List Int} (hn : sq.length = n) (hp : 0 < p) (h2 : 2 ≤ p) : ∀ (k : Nat) (L : List (List Int)), L.length = k → (∀ v ∈ L, NumsL p v) → wedgesL p sq n L = (Cl.prod hp L : Cl p (zs n)).l := by
  intro k
  induction k with
  | zero =>
    intro L h _
    rw [List.eq_nil_of_length_eq_zero h]
    show bladeL n 0 = (Cl.one hp : Cl p (zs n)).l
    rw [Cl.one_l h2, zs_len]
  | succ k ih =>
    intro L h hN
    have hne : L ≠ [] := fun e => by rw [e] at h; cases h
    rw [← List.dropLast_concat_getLast hne] at hN ⊢
    rw [wedgesL_snoc, Cl.prod_snoc, ih L.dropLast (by rw [List.length_dropLast]; omega) fun v hv => hN v (List.mem_append_left _ hv)]
    have hv := hN (L.getLast hne) (by simp)
    have e : vecTo n (L.getLast hne) n = (Cl.vec hp (L.getLast hne) : Cl p (zs n)).l := by rw [Cl.vec_l hp hv, zs_len]
    rw [e, wedge_cl' hn]
/-- What the subspace of a multivector has: the vectors whose outer product with it is 0. -/
theorem sub_sp {sq : List Int} (hn : sq.length = n) (h0 : 0 < n) (hp : 0 < p) (hP : isP p = true) (x : Cl p (zs n)) (v : List Int) : Sp p n (subL p sq n x.l) (fun q => v.getD q 0) ↔ (Cl.vec hp v : Cl p (zs n)) * x = Cl.zero hp := by
  have h3 := (isP_ge hP).1
  have hT := wcolsL_tab (P := p) hp sq n x.l
  unfold subL
  rw [kernL_sp hP (by have := transL_tab hp hT; rwa [wcolsL_len] at this), orth_trans hT (wcolsL_len _ _ _ _) h0]
  have e : ∀ i, i < pw n → (sumTo n fun q => ent (wcolsL p sq n x.l) q i * v.getD q 0) % p = ((Cl.vec hp v : Cl p (zs n)) * x).co i % p := fun i hi => by
    rw [Cl.vec_sum hp v, Cl.sum_mul, Cl.sum_co hp _ (by rw [zs_len]; exact hi), zs_len]
    refine sumTo_mod p fun q hq => ?_
    rw [Cl.sm_mul, Cl.sm_co _ _ (by rw [zs_len]; exact hi), Int.mul_comm]
    have e1 : ent (wcolsL p sq n x.l) q i = ((Cl.vec hp (unitRow n q) : Cl p (zs n)) * x).co i := by
      unfold ent wcolsL
      rw [tab_getD hq]
      unfold wcolL
      have e2 : vecTo n (unitRow n q) n = (Cl.vec hp (unitRow n q) : Cl p (zs n)).l := by rw [Cl.vec_l hp (unitRow_nums (by omega) _ _), zs_len]
      rw [e2, wedge_cl' hn]; rfl
    rw [e1]
  constructor
  · intro h
    refine Cl.same fun m hm => ?_
    rw [zs_len] at hm
    rw [← e m hm, h m hm, Cl.zero_co hp (by rw [zs_len]; exact hm)]
  · intro h i hi
    rw [e i hi, h, Cl.zero_co hp (by rw [zs_len]; exact hi)]
/-- Products of k vectors have grade k alone. -/
theorem pc_down : ∀ m : Nat, m < 64 → ∀ i : Nat, i < 6 → m.testBit i = true → pc (2 ^ i ^^^ m) + 1 = pc m := by decide +kernel
theorem Cl.prod_grade (hp : 0 < p) (h6 : n ≤ 6) : ∀ (L : List (List Int)) (m : Nat), m < pw n → (Cl.prod hp L : Cl p (zs n)).co m ≠ 0 → pc m = L.length
  | [], m, hm, h => by
    have e := Cl.one_co (sq := zs n) hp (m := m) (by rw [zs_len]; exact hm)
    by_cases h0 : m = 0
    · rw [h0, pc_zero]; rfl
    · rw [if_neg h0, Int.zero_emod, Cl.co_mod] at e
      exact absurd e h
  | v :: L, m, hm, h => by
    have hpw : pw n ≤ 64 := pw_le h6
    rcases Classical.em (∃ i, i < n ∧ m.testBit i = true ∧ (Cl.prod hp L : Cl p (zs n)).co (2 ^ i ^^^ m) ≠ 0) with ⟨i, hi, hb, hne⟩ | hno
    · have h1 := Cl.prod_grade hp h6 L _ (xor_lt (two_lt hi) hm) hne
      have h2 := pc_down m (by omega) i (by omega) hb
      rw [List.length_cons]; omega
    · exfalso
      refine h ?_
      rw [Cl.prod_cons, ← Cl.co_mod, Cl.vec_mul_co hp v _ (by rw [zs_len]; exact hm), zs_len, sumTo_zero fun i hi => ?_, Int.zero_emod]
      by_cases hb : m.testBit i = true
      · have : (Cl.prod hp L : Cl p (zs n)).co (2 ^ i ^^^ m) = 0 := Classical.byContradiction fun h1 => hno ⟨i, hi, hb, h1⟩
        rw [this, Int.mul_zero, Int.zero_mul]
      · rw [facZ_hit (two_lt hi) (fun e => hb ((pow_and i _).1 e)), Int.mul_zero]
end
end Go.Proofs.YtggigolkncckoaaGreat
namespace Go.Proofs.YtggigolkncckoaaGreat
section
variable {p : Int} {n : Nat}
theorem Cl.zero_addz (x : Cl p (zs n)) (hp : 0 < p) : Cl.zero hp + x = x := by rw [Cl.add_comm, Cl.add_zero]
theorem Cl.sm_zero (hp : 0 < p) {sq : List Int} (k : Int) : k * (Cl.zero hp : Cl p sq) = Cl.zero hp := by
  rw [← Cl.zero_sm (Cl.one hp), Cl.sm_sm, Int.mul_zero]
/-- The mask that has all leads tells all others. -/
theorem Cl.descent (hp : 0 < p) {B : List (List Int)} (hR : Red n B) (y : Cl p (zs n)) (hv : ∀ j, j < B.length → (Cl.vec hp (B.getD j []) : Cl p (zs n)) * y = Cl.zero hp)
    (h0 : ∀ m, m < pw n → (∀ j, j < B.length → m.testBit (ld B j) = true) → y.co m = 0) :
    ∀ k, k ≤ B.length → ∀ m, m < pw n → (∀ j, k ≤ j → j < B.length → m.testBit (ld B j) = true) → y.co m = 0 := by
  intro k
  induction k with
  | zero => exact fun _ m hm hb => h0 m hm fun j hj => hb j (Nat.zero_le _) hj
  | succ k ih =>
    intro hk m hm hb
    have hkl : k < B.length := by omega
    by_cases ht : m.testBit (ld B k) = true
    · refine ih (by omega) m hm fun j hj hjl => ?_
      rcases Nat.eq_or_lt_of_le hj with rfl | hlt
      · exact ht
      · exact hb j hlt hjl
    · have hl : ld B k < n := hR.lt k hkl
      have hone : (B.getD k []).getD (ld B k) 0 = 1 := hR.one k hkl
      obtain ⟨l, hle⟩ : ∃ l, l = ld B k := ⟨_, rfl⟩
      rw [← hle] at hl ht hone
      have htf : m.testBit l = false := by cases e : m.testBit l; rfl; exact absurd e ht
      have hm' : 2 ^ l ^^^ m < pw n := xor_lt (two_lt hl) hm
      have hbl : (2 ^ l ^^^ m).testBit l = true := by rw [Nat.testBit_xor, Nat.testBit_two_pow_self, htf]; rfl
      have hco := Cl.vec_mul_co hp (B.getD k []) y (m := 2 ^ l ^^^ m) (by rw [zs_len]; exact hm')
      rw [hv k hkl, Cl.zero_co hp (by rw [zs_len]; exact hm'), zs_len, sumTo_one l hl fun i hi hne => ?_] at hco
      · rw [xor_self_left, hone, Int.one_mul] at hco
        have hF : facZ (zs n) (2 ^ l) m * facZ (zs n) (2 ^ l) m = 1 := by
          unfold facZ
          rw [comZ_apart (zs n) ((and_zero_iff _ _).1 (by
            have := (pow_and l (2 ^ l ^^^ m)).2 hbl
            rwa [xor_self_left] at this)), Int.mul_one, sg_two]
        obtain ⟨u, hu⟩ := cg_wit.1 (hco.symm.trans (Int.zero_emod p).symm)
        have h1 : y.co m = 0 + p * (u * facZ (zs n) (2 ^ l) m) := by
          have h2 : y.co m * (facZ (zs n) (2 ^ l) m * facZ (zs n) (2 ^ l) m) = (0 + p * u) * facZ (zs n) (2 ^ l) m := by rw [← Int.mul_assoc, hu]
          rw [hF, Int.mul_one] at h2
          rw [h2, Int.zero_add, Int.zero_add, Int.mul_assoc]
        have h3 := (cg_wit.2 ⟨_, h1⟩).trans (Int.zero_emod p)
        rwa [Cl.co_mod] at h3
      · by_cases hbi : (2 ^ l ^^^ m).testBit i = true
        · have hmi : m.testBit i = true := by
            rw [Nat.testBit_xor, Nat.testBit_two_pow] at hbi
            simpa [Ne.symm hne] using hbi
          cases hli : isLd B i with
          | true =>
            obtain ⟨j, hj, rfl⟩ := isLd_iff.1 hli
            have hjk : k ≠ j := fun e => hne (by rw [hle, e])
            have : (B.getD k []).getD (ld B j) 0 = 0 := hR.zero j k hj hkl hjk
            rw [this, Int.zero_mul, Int.zero_mul]
          | false =>
            have hnl : ∀ j, j < B.length → ld B j ≠ i := fun j hj e => by rw [isLd_iff.2 ⟨j, hj, e⟩] at hli; cases hli
            rw [ih (by omega) (2 ^ i ^^^ (2 ^ l ^^^ m)) (xor_lt (two_lt hi) hm') (fun j hj hjl => by
              rw [Nat.testBit_xor, Nat.testBit_two_pow, Nat.testBit_xor, Nat.testBit_two_pow]
              have h1 := hnl j hjl
              rcases Nat.eq_or_lt_of_le hj with rfl | hlt
              · simp [Ne.symm h1, ← hle, htf, hne]
              · have h2 := hb j hlt hjl
                have h3 : ¬ l = ld B j := fun e => by have := hR.inj hkl hjl (hle ▸ e); omega
                simp [Ne.symm h1, h3, h2]), Int.mul_zero, Int.zero_mul]
        · rw [facZ_hit (two_lt hi) (fun e => hbi ((pow_and i _).1 e)), Int.mul_zero]
theorem pc_full : ∀ a : Nat, a < 64 → ∀ b : Nat, b < 64 → a &&& b = a → pc a = pc b → a = b := by decide +kernel
theorem and_of_bits {a b : Nat} (h : ∀ i, a.testBit i = true → b.testBit i = true) : a &&& b = a := by
  refine Nat.eq_of_testBit_eq fun i => ?_
  rw [Nat.testBit_and]
  cases e : a.testBit i
  · rfl
  · rw [h i e]; rfl
theorem Cl.prod_at (hp : 0 < p) (h2 : 2 ≤ p) {B : List (List Int)} (hR : Red n B) (hT : Tab p n B) : (Cl.prod hp B : Cl p (zs n)).co (maskTo B B.length) = 1 := by
  unfold Cl.co
  rw [← wedges_prod (sq := zs n) (zs_len n) hp h2 B.length B rfl fun v hv => (hT v hv).2]
  have := wedges_at (P := p) h2 (zs n) hR B.length (Nat.le_refl _) _ (maskTo_lt hR _ (Nat.le_refl _)) (fun i hi => maskTo_bits B B.length (Nat.le_refl _) i hi)
  rwa [List.take_length, if_pos rfl] at this
theorem isBl_grade {sq : List Int} (h6 : n ≤ 6) {xs : List Int} (hl : xs.length = pw n) (hb : isBl p sq n xs = true) : ∀ m, m < pw n → xs.getD m 0 ≠ 0 → pc m = (subL p sq n xs).length := fun m hm hne => by
  have hpw : pw n ≤ 64 := pw_le h6
  unfold isBl at hb
  rw [Bool.and_eq_true, decide_eq_true_eq, decide_eq_true_eq] at hb
  have h1 := (gradesL_mem xs (by rw [hl]; exact hpw) ((pc m : Nat) : Int)).2 ⟨m, by rw [hl]; exact hm, hne, rfl⟩
  match hg : gradesL xs, hb, h1 with
  | [a], hb, h1 =>
    have h2 := List.mem_singleton.1 h1
    have h3 : (((subL p sq n xs).length : Nat) : Int) = a := hb.2
    omega
/-- A blade is a multiple of the product of the reduced basis of its subspace. -/
theorem Cl.blade_own {sq : List Int} (hn : sq.length = n) (h0 : 0 < n) (h6 : n ≤ 6) (hP : isP p = true) (hp : 0 < p) (x : Cl p (zs n)) (hb : isBl p sq n x.l = true) :
    x = x.co (maskTo (subL p sq n x.l) (subL p sq n x.l).length) * Cl.prod hp (subL p sq n x.l) := by
  have h3 := (isP_ge hP).1
  have hpw : pw n ≤ 64 := pw_le h6
  have hgr := isBl_grade (sq := sq) h6 (x.len.trans (by rw [zs_len])) hb
  have hv0 := fun j (hj : j < (subL p sq n x.l).length) => (sub_sp hn h0 hp hP x ((subL p sq n x.l).getD j [])).1 (Sp.row hj)
  have hR : Red n (subL p sq n x.l) := by unfold subL; exact kernL_red hP _ _
  have hT : Tab p n (subL p sq n x.l) := by unfold subL; exact kernL_tab (by omega) _ _
  obtain ⟨B, hB⟩ : ∃ B, B = subL p sq n x.l := ⟨_, rfl⟩
  rw [← hB] at hgr hv0 hR hT ⊢
  have hMlt := maskTo_lt hR B.length (Nat.le_refl _)
  have hMat := Cl.prod_at hp (by omega) hR hT
  obtain ⟨M, hM⟩ : ∃ M, M = maskTo B B.length := ⟨_, rfl⟩
  rw [← hM] at hMlt hMat ⊢
  have hMpc : pc M = B.length := Cl.prod_grade hp h6 B M hMlt (by rw [hMat]; decide)
  have hz : x + (-(x.co M)) * Cl.prod hp B = Cl.zero hp := Cl.same fun m hm => by
    rw [Cl.zero_co hp hm]
    rw [zs_len] at hm
    rw [Cl.co_mod]
    refine Cl.descent hp hR _ (fun j hj => ?_) (fun m hm hall => ?_) B.length (Nat.le_refl _) m hm fun j h1 h2 => by omega
    · rw [Cl.mul_add, hv0 j hj, Cl.mul_sm, Cl.in_prod hp hP B _ (getD_mem [] hj), Cl.sm_zero, Cl.add_zero]
    · have hadd := Cl.add_co x ((-(x.co M)) * Cl.prod hp B) (m := m) (by rw [zs_len]; exact hm)
      rw [Cl.co_mod, Int.add_emod, Cl.sm_co _ _ (by rw [zs_len]; exact hm), ← Int.add_emod] at hadd
      rw [hadd]
      by_cases hpc : pc m = B.length
      · have : M = m := pc_full M (by omega) m (by omega) (and_of_bits fun i hi => by
          rw [hM] at hi
          obtain ⟨j, hj, rfl⟩ := isLd_iff.1 (maskTo_bits B B.length (Nat.le_refl _) i hi)
          exact hall j hj) (by rw [hMpc, hpc])
        subst this
        rw [hMat, Int.mul_one, Int.add_right_neg]; rfl
      · have e1 : x.co m = 0 := Classical.byContradiction fun h => hpc (hgr m hm h)
        have e2 : (Cl.prod hp B : Cl p (zs n)).co m = 0 := Classical.byContradiction fun h => hpc (Cl.prod_grade hp h6 B m hm h)
        rw [e1, e2, Int.mul_zero]; rfl
  have h := Cl.add_back x (Cl.prod hp B) (-(x.co M))
  rw [hz, Int.neg_neg, Cl.zero_addz] at h
  exact h.symm
theorem Cl.squeeze (hp : 0 < p) (hP : isP p = true) (v : List Int) : ∀ L : List (List Int), (Cl.vec hp v : Cl p (zs n)) * Cl.prod hp L * Cl.vec hp v = Cl.zero hp
  | [] => by
    show (Cl.vec hp v : Cl p (zs n)) * Cl.one hp * Cl.vec hp v = _
    rw [Cl.mul_one, Cl.zz hp hP]
  | u :: L => by
    rw [Cl.prod_cons, ← Cl.mul_assoc, Cl.za, Cl.sm_mul, Cl.sm_mul, Cl.mul_assoc (Cl.vec hp u), Cl.mul_assoc (Cl.vec hp u), Cl.squeeze hp hP v L, Cl.mul_zero, Cl.sm_zero]
theorem Cl.prod_in (hp : 0 < p) (hP : isP p = true) : ∀ (L : List (List Int)) (v : List Int), v ∈ L → (Cl.prod hp L : Cl p (zs n)) * Cl.vec hp v = Cl.zero hp
  | [], v, h => by cases h
  | u :: L, v, h => by
    rw [Cl.prod_cons]
    rcases List.mem_cons.1 h with rfl | h
    · exact Cl.squeeze hp hP v L
    · rw [Cl.mul_assoc, Cl.prod_in hp hP L v h, Cl.mul_zero]
theorem Cl.prod_set (hp : 0 < p) {sq : List Int} (L : List (List Int)) {i : Nat} (hi : i < L.length) (v : List Int) : (Cl.prod hp (L.set i v) : Cl p sq) = Cl.prod hp (L.take i) * (Cl.vec hp v * Cl.prod hp (L.drop (i + 1))) := by
  rw [List.set_eq_take_append_cons_drop, if_pos hi, Cl.prod_append, Cl.prod_cons]
theorem set_self (L : List (List Int)) {i : Nat} (hi : i < L.length) : L.set i (L.getD i []) = L := by
  refine list_ext_getD [] (by rw [List.length_set]) fun j _ => ?_
  rw [getD_set]
  by_cases h : i = j
  · subst h; rw [if_pos ⟨rfl, hi⟩]
  · rw [if_neg fun e => h e.1]
theorem Cl.prod_split (hp : 0 < p) {sq : List Int} (L : List (List Int)) {i : Nat} (hi : i < L.length) : (Cl.prod hp L : Cl p sq) = Cl.prod hp (L.take i) * (Cl.vec hp (L.getD i []) * Cl.prod hp (L.drop (i + 1))) := by
  rw [← Cl.prod_set hp L hi, set_self L hi]
theorem Cl.prod_rep' (hp : 0 < p) (hP : isP p = true) (L : List (List Int)) {i j : Nat} (hij : i < j) (hj : j < L.length) (h : L.getD i [] = L.getD j []) : (Cl.prod hp L : Cl p (zs n)) = Cl.zero hp := by
  have hm : L.getD j [] ∈ L.take j := by
    rw [← h, ← take_getD [] L hij]
    exact getD_mem [] (by rw [List.length_take]; omega)
  rw [Cl.prod_split hp L hj, ← Cl.mul_assoc, Cl.prod_in hp hP _ _ hm, Cl.zero_mul]
theorem Cl.prod_rep (hp : 0 < p) (hP : isP p = true) (L : List (List Int)) {i j : Nat} (hij : i ≠ j) (hi : i < L.length) (hj : j < L.length) (h : L.getD i [] = L.getD j []) : (Cl.prod hp L : Cl p (zs n)) = Cl.zero hp := by
  rcases Nat.lt_or_gt_of_ne hij with h1 | h1
  · exact Cl.prod_rep' hp hP L h1 hj h
  · exact Cl.prod_rep' hp hP L h1 hi h.symm
theorem Cl.set_plus (hp : 0 < p) {sq : List Int} (L : List (List Int)) {j : Nat} (hj : j < L.length) {a : List Int} (b : List Int) (ha : a.length = sq.length) (k : Int) :
    (Cl.prod hp (L.set j (plusL p a b k)) : Cl p sq) = Cl.prod hp (L.set j a) + k * Cl.prod hp (L.set j b) := by
  rw [Cl.prod_set hp L hj, Cl.prod_set hp L hj, Cl.prod_set hp L hj, Cl.vec_plus hp ha, Cl.add_mul, Cl.mul_add, Cl.sm_mul, Cl.mul_sm]
/-- A multiple of another row. -/
theorem Cl.prod_plus (hp : 0 < p) (hP : isP p = true) {L : List (List Int)} (hT : Tab p n L) {j d : Nat} (hj : j < L.length) (hd : d < L.length) (hjd : j ≠ d) (k : Int) :
    (Cl.prod hp (L.set j (plusL p (L.getD j []) (L.getD d []) k)) : Cl p (zs n)) = Cl.prod hp L := by
  rw [Cl.set_plus hp L hj _ ((hT.row hj).1.trans (zs_len n).symm), set_self L hj, Cl.prod_rep hp hP (L.set j (L.getD d [])) hjd (by rw [List.length_set]; exact hj) (by rw [List.length_set]; exact hd) (by
    rw [getD_set, if_pos ⟨rfl, hj⟩, getD_set, if_neg fun e => hjd e.1]), Cl.sm_zero, Cl.add_zero]
/-- Two rows exchanged. -/
theorem Cl.prod_swap (hp : 0 < p) (hP : isP p = true) {L : List (List Int)} (hT : Tab p n L) {i j : Nat} (hi : i < L.length) (hj : j < L.length) (hij : i ≠ j) :
    (Cl.prod hp (swapL L i j) : Cl p (zs n)) = (-1 : Int) * Cl.prod hp L := by
  obtain ⟨a, ha⟩ : ∃ a, a = L.getD i [] := ⟨_, rfl⟩
  obtain ⟨b, hb⟩ : ∃ b, b = L.getD j [] := ⟨_, rfl⟩
  have la : a.length = (zs n).length := by rw [ha, (hT.row hi).1, zs_len]
  obtain ⟨s, hs⟩ : ∃ s, s = plusL p a b 1 := ⟨_, rfl⟩
  have rep : ∀ v : List Int, (Cl.prod hp ((L.set i v).set j v) : Cl p (zs n)) = Cl.zero hp := fun v =>
    Cl.prod_rep hp hP _ hij (by rw [List.length_set, List.length_set]; exact hi) (by rw [List.length_set, List.length_set]; exact hj) (by
      rw [getD_set, if_neg fun e => hij e.1.symm, getD_set, if_pos ⟨rfl, hi⟩, getD_set, if_pos ⟨rfl, by rw [List.length_set]; exact hj⟩])
  have comm : ∀ u v : List Int, (L.set i u).set j v = (L.set j v).set i u := fun u v => List.set_comm u v hij
  have e1 := rep s
  have l1 : j < (L.set i s).length := by rw [List.length_set]; exact hj
  have l2 : ∀ v, i < (L.set j v).length := fun v => by rw [List.length_set]; exact hi
  have e2 : (Cl.prod hp ((L.set i s).set j s) : Cl p (zs n)) = Cl.prod hp ((L.set i s).set j a) + (1 : Int) * Cl.prod hp ((L.set i s).set j b) := by
    have h9 := Cl.set_plus hp (L.set i s) l1 b la 1
    rw [← hs] at h9
    exact h9
  have e3 : ∀ v, (Cl.prod hp ((L.set i s).set j v) : Cl p (zs n)) = Cl.prod hp ((L.set i a).set j v) + (1 : Int) * Cl.prod hp ((L.set i b).set j v) := fun v => by
    rw [comm s v, hs, Cl.set_plus hp _ (l2 v) b la 1, ← comm a v, ← comm b v]
  rw [e2, e3 a, e3 b, rep a, rep b, Cl.zero_addz, Cl.one_sm, Cl.one_sm, Cl.one_sm, Cl.add_zero] at e1
  have e4 : (L.set i a).set j b = L := by rw [ha, set_self L hi, hb, set_self L hj]
  have e5 : swapL L i j = (L.set i b).set j a := by unfold swapL; rw [← ha, ← hb]
  rw [e4] at e1
  rw [e5]
  have h := Cl.add_back (Cl.prod hp ((L.set i b).set j a) : Cl p (zs n)) (Cl.prod hp L) 1
  rw [Cl.one_sm, e1, Cl.zero_addz] at h
  exact h.symm
/-- The sign of an exchange. -/
def swSg (i j : Nat) : Int := if i = j then 1 else -1
theorem swapL_self (L : List (List Int)) {i : Nat} (hi : i < L.length) : swapL L i i = L := by
  unfold swapL; rw [set_self L hi, set_self L hi]
theorem Cl.prod_swap' (hp : 0 < p) (hP : isP p = true) {L : List (List Int)} (hT : Tab p n L) {i j : Nat} (hi : i < L.length) (hj : j < L.length) :
    (Cl.prod hp (swapL L i j) : Cl p (zs n)) = swSg i j * Cl.prod hp L := by
  unfold swSg
  by_cases h : i = j
  · subst h; rw [if_pos rfl, swapL_self L hi, Cl.one_sm]
  · rw [if_neg h, Cl.prod_swap hp hP hT hi hj h]
theorem swSg_ne (hP : isP p = true) (i j : Nat) : swSg i j % p ≠ 0 := by
  have h3 := isP_ge hP
  unfold swSg
  split
  · rw [Int.emod_eq_of_lt (by omega) (by omega)]; decide
  · intro h
    have h1 : (-1 : Int) % p = p - 1 := by
      rw [← Int.add_emod_right (a := -1), show (-1 : Int) + p = p - 1 by omega, Int.emod_eq_of_lt (by omega) (by omega)]
    omega
theorem Cl.sm_inv {sq : List Int} (hP : isP p = true) {c : Int} (hc : c % p ≠ 0) {x y : Cl p sq} (h : x = c * y) : y = invF p (c % p) * x := by
  rw [h, Cl.sm_sm]
  have h1 := inv_mod hP hc
  rw [Int.mul_comm] at h1
  rw [Cl.sm_cg (k := invF p (c % p) * c) (j := 1) (by rw [h1, Int.emod_eq_of_lt] <;> have := isP_ge hP <;> omega), Cl.one_sm]
end
end Go.Proofs.YtggigolkncckoaaGreat

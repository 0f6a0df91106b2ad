/-
  LawFnVersors: part 5 of the texts that the proof needs. No condition.
-/
import Derived.Test.YtggigolkncckoaaGreatP4
namespace Go.Proofs.YtggigolkncckoaaGreat
def swn (a b : Nat) : Nat → Nat
  | 0 => 0
  | i + 1 => swn a b i + (if bit b i = 1 then pcn (a / 2 ^ (i + 1)) 6 else 0)
def rvn (k : Nat) : Nat := k * (k - 1) / 2
theorem rev_all : ∀ a : Nat, a < 64 → ∀ b : Nat, b < 64 → (swn a b 6 + swn b a 6 + rvn (pcn a 6) + rvn (pcn b 6) + rvn (pcn (a ^^^ b) 6)) % 2 = 0 := by decide +kernel
theorem swaps_swn {a b : Nat} (ha : a < 64) : ∀ n, swaps a b n = swn a b n := by
  intro n
  induction n with
  | zero => rfl
  | succ n ih =>
    simp only [swaps, swn]
    rw [ih, pc_pcn 6 _ (Nat.lt_of_le_of_lt (Nat.div_le_self _ _) (by simpa using ha))]
theorem bit_high {b n i : Nat} (hb : b < 2 ^ n) (h : n ≤ i) : bit b i = 0 := by
  unfold bit
  rw [Nat.div_eq_of_lt (Nat.lt_of_lt_of_le hb (Nat.pow_le_pow_right (by decide) h))]
theorem swaps_more {a b n : Nat} (hb : b < 2 ^ n) : ∀ k, swaps a b (n + k) = swaps a b n := by
  intro k
  induction k with
  | zero => rfl
  | succ k ih =>
    rw [← Nat.add_assoc]
    simp only [swaps]
    rw [ih, bit_high hb (by omega)]
    rfl
theorem swaps_six {a b n : Nat} (hn : n ≤ 6) (ha : a < pw n) (hb : b < pw n) : swaps a b n = swn a b 6 := by
  have h64 : a < 64 := Nat.lt_of_lt_of_le ha (pw_le (k := 6) hn)
  rw [← swaps_swn h64, show 6 = n + (6 - n) by omega, swaps_more hb]
/-- The sign of a blade when it is reversed, and when it is involuted. -/
def sgR (a : Nat) : Int := if revT (pc a) then -1 else 1
def sgI (a : Nat) : Int := if oddT (pc a) then -1 else 1
theorem sgR_sg (a : Nat) : sgR a = sg (rvn (pc a)) := by
  unfold sgR sg revT rvn
  simp only [beq_iff_eq]
theorem sgI_sg (a : Nat) : sgI a = sg (pc a) := by
  unfold sgI sg oddT
  simp only [beq_iff_eq]
theorem sgI_xor (a b : Nat) : sgI (a ^^^ b) = sgI a * sgI b := by
  rw [sgI_sg, sgI_sg, sgI_sg, ← sg_add]
  exact sg_congr (pc_xor a b)
theorem facZ_rev {sq : List Int} (hn : sq.length ≤ 6) {a b : Nat} (ha : a < pw sq.length) (hb : b < pw sq.length) : sgR (a ^^^ b) * facZ sq a b = sgR b * sgR a * facZ sq b a := by
  have h64 : ∀ {x}, x < pw sq.length → x < 64 := fun h => Nat.lt_of_lt_of_le h (pw_le (k := 6) hn)
  unfold facZ
  rw [comZ_symm sq b a, ← Int.mul_assoc, ← Int.mul_assoc]
  congr 1
  rw [sgR_sg, sgR_sg, sgR_sg, ← sg_add, ← sg_add, ← sg_add]
  apply sg_congr
  rw [swaps_six hn ha hb, swaps_six hn hb ha, pc_pcn 6 a (h64 ha), pc_pcn 6 b (h64 hb), pc_pcn 6 _ (h64 (xor_lt ha hb))]
  have := rev_all a (h64 ha) b (h64 hb)
  omega
section
variable {p : Int} {sq : List Int}
def Cl.rev (x : Cl p sq) : Cl p sq := Cl.of x.pos fun m => sgR m * x.co m
def Cl.invo (x : Cl p sq) : Cl p sq := Cl.of x.pos fun m => sgI m * x.co m
theorem Cl.rev_co (x : Cl p sq) {m : Nat} (hm : m < pw sq.length) : x.rev.co m % p = (sgR m * x.co m) % p := Cl.of_cg _ _ hm
theorem Cl.invo_co (x : Cl p sq) {m : Nat} (hm : m < pw sq.length) : x.invo.co m % p = (sgI m * x.co m) % p := Cl.of_cg _ _ hm
theorem Cl.rev_mul (hn : sq.length ≤ 6) (x y : Cl p sq) : (x * y).rev = y.rev * x.rev := Cl.same fun m hm => by
  rw [Cl.rev_co _ hm, Int.mul_emod, Cl.mul_co _ _ hm, ← Int.mul_emod, Cl.mul_co _ _ hm, mulZ_cg p sq (fun a ha => Cl.rev_co y ha) (fun a ha => Cl.rev_co x ha) hm]
  unfold mulZ
  rw [sumTo_xor (fun a => sgR a * y.co a * (sgR (a ^^^ m) * x.co (a ^^^ m)) * facZ sq a (a ^^^ m)) hm, ← sumTo_mul]
  congr 1
  refine sumTo_congr fun a ha => ?_
  have h := facZ_rev hn ha (xor_lt ha hm)
  rw [xor_self_left] at h
  rw [xor_self_right]
  calc sgR m * (x.co a * y.co (a ^^^ m) * facZ sq a (a ^^^ m)) = x.co a * y.co (a ^^^ m) * (sgR m * facZ sq a (a ^^^ m)) := by rw [Int.mul_left_comm]
    _ = x.co a * y.co (a ^^^ m) * (sgR (a ^^^ m) * sgR a * facZ sq (a ^^^ m) a) := by rw [h]
    _ = _ := by
      rw [← Int.mul_assoc]
      congr 1
      generalize x.co a = X
      generalize y.co (a ^^^ m) = Y
      generalize sgR a = S
      generalize sgR (a ^^^ m) = T
      rw [Int.mul_comm X Y, Int.mul_comm T Y, Int.mul_assoc, Int.mul_assoc, Int.mul_left_comm X, Int.mul_comm X S]
theorem Cl.invo_mul (x y : Cl p sq) : (x * y).invo = x.invo * y.invo := Cl.same fun m hm => by
  rw [Cl.invo_co _ hm, Int.mul_emod, Cl.mul_co _ _ hm, ← Int.mul_emod, Cl.mul_co _ _ hm, mulZ_cg p sq (fun a ha => Cl.invo_co x ha) (fun a ha => Cl.invo_co y ha) hm]
  unfold mulZ
  rw [← sumTo_mul]
  congr 1
  refine sumTo_congr fun a _ => ?_
  have h := sgI_xor a (a ^^^ m)
  rw [xor_self_left] at h
  rw [h]
  show _ = sgI a * x.co a * (sgI (a ^^^ m) * y.co (a ^^^ m)) * _
  generalize x.co a = X
  generalize y.co (a ^^^ m) = Y
  generalize sgI a = S
  generalize sgI (a ^^^ m) = T
  rw [← Int.mul_assoc]
  congr 1
  rw [Int.mul_assoc, Int.mul_assoc, Int.mul_left_comm T]
theorem Cl.rev_sm (k : Int) (x : Cl p sq) : (k * x).rev = k * x.rev := Cl.same fun m hm => by
  rw [Cl.rev_co _ hm, Int.mul_emod, Cl.sm_co _ _ hm, ← Int.mul_emod, Cl.sm_co _ _ hm, Int.mul_emod k, Cl.rev_co _ hm, ← Int.mul_emod, Int.mul_left_comm]
theorem Cl.invo_sm (k : Int) (x : Cl p sq) : (k * x).invo = k * x.invo := Cl.same fun m hm => by
  rw [Cl.invo_co _ hm, Int.mul_emod, Cl.sm_co _ _ hm, ← Int.mul_emod, Cl.sm_co _ _ hm, Int.mul_emod k, Cl.invo_co _ hm, ← Int.mul_emod, Int.mul_left_comm]
theorem Cl.one_rev (hp : 0 < p) : (Cl.one hp : Cl p sq).rev = Cl.one hp := Cl.same fun m hm => by
  rw [Cl.rev_co _ hm, Int.mul_emod, Cl.one_co hp hm, ← Int.mul_emod]
  by_cases h : m = 0
  · rw [if_pos h, h]; unfold sgR; rw [pc_zero]; rfl
  · rw [if_neg h, Int.mul_zero]
theorem Cl.one_invo (hp : 0 < p) : (Cl.one hp : Cl p sq).invo = Cl.one hp := Cl.same fun m hm => by
  rw [Cl.invo_co _ hm, Int.mul_emod, Cl.one_co hp hm, ← Int.mul_emod]
  by_cases h : m = 0
  · rw [if_pos h, h]; unfold sgI; rw [pc_zero]; rfl
  · rw [if_neg h, Int.mul_zero]
theorem Cl.sgn_l (x : Cl p sq) (t : Nat → Bool) : (Cl.of x.pos fun m => (if t (pc m) then -1 else 1) * x.co m : Cl p sq).l = sgnL p t x.l := by
  refine list_ext_getD 0 (by rw [Cl.len, sgnL_len, x.len]) fun m hm => ?_
  rw [Cl.len] at hm
  rw [sgnL_getD (by rw [x.len]; exact hm)]
  show (Cl.of _ _ : Cl p sq).co m = _
  rw [Cl.of_co _ _ hm]
  split
  · rw [Int.neg_mul, Int.one_mul]; rfl
  · rw [Int.one_mul, x.co_mod]; rfl
theorem Cl.rev_l (x : Cl p sq) : x.rev.l = revL p x.l := x.sgn_l revT
theorem Cl.invo_l (x : Cl p sq) : x.invo.l = invoL p x.l := x.sgn_l oddT
def Cl.vec (hp : 0 < p) (v : List Int) : Cl p sq := Cl.of hp fun b => sumTo sq.length fun i => if b = 2 ^ i then v.getD i 0 else 0
theorem Cl.vec_co (hp : 0 < p) (v : List Int) {m : Nat} (hm : m < pw sq.length) : (Cl.vec hp v : Cl p sq).co m % p = (sumTo sq.length fun i => if m = 2 ^ i then v.getD i 0 else 0) % p := Cl.of_cg _ _ hm
theorem Cl.vec_l (hp : 0 < p) {v : List Int} (hv : NumsL p v) : (Cl.vec hp v : Cl p sq).l = vecTo sq.length v sq.length := by
  refine list_ext_getD 0 (by rw [Cl.len, vecTo_len]) fun m hm => ?_
  rw [Cl.len] at hm
  rw [vecTo_getD _ hm _ (Nat.le_refl _)]
  show (Cl.vec _ _ : Cl p sq).co m = _
  rw [← Cl.co_mod, Cl.vec_co hp v hm, ← vecTo_getD v hm _ (Nat.le_refl _)]
  have := (vecTo_nums hp sq.length v hv sq.length).getD hp m
  exact Int.emod_eq_of_lt this.1 this.2
theorem pow_inj {i j : Nat} (h : (2 : Nat) ^ i = 2 ^ j) : i = j := (Nat.pow_right_inj (by decide)).1 h
theorem bit_pow (i j : Nat) : bit (2 ^ i) j = if i = j then 1 else 0 := by
  rw [bit_eq, Nat.testBit_two_pow]
  by_cases h : i = j <;> simp [h]
theorem pc_pow (i : Nat) : pc (2 ^ i) = 1 := by
  rw [pc_pcn (i + 1) _ (Nat.pow_lt_pow_right (by decide) (by omega)), pcn, bit_pow, if_pos rfl]
  have : ∀ k, k ≤ i → pcn (2 ^ i) k = 0 := by
    intro k
    induction k with
    | zero => intro _; rfl
    | succ k ih => intro hk; rw [pcn, ih (by omega), bit_pow, if_neg (by omega)]
  rw [this i (Nat.le_refl _)]
theorem swaps_pow (a j : Nat) : ∀ k, swaps a (2 ^ j) k = if j < k then pc (a / 2 ^ (j + 1)) else 0 := by
  intro k
  induction k with
  | zero => rfl
  | succ k ih =>
    simp only [swaps]
    rw [ih, bit_pow]
    by_cases h1 : j = k
    · subst h1; simp
    · by_cases h2 : j < k
      · simp [h1, h2, show j < k + 1 by omega]
      · simp [h1, h2, show ¬ j < k + 1 by omega]
theorem comZ_pow (sq : List Int) (i j : Nat) : ∀ k, comZ sq (2 ^ i) (2 ^ j) k = if i = j ∧ i < k then sq.getD i 0 else 1 := by
  intro k
  induction k with
  | zero => simp [comZ]
  | succ k ih =>
    simp only [comZ]
    rw [ih, bit_pow, bit_pow]
    by_cases h : i = j
    · subst h
      by_cases h1 : i = k
      · subst h1; simp
      · by_cases h2 : i < k
        · simp [h1, h2, show i < k + 1 by omega]
        · simp [h1, h2, show ¬ i < k + 1 by omega]
    · simp only [h, false_and, if_false]
      rw [if_neg, Int.mul_one]
      rintro ⟨h1, h2⟩
      split at h1
      · split at h2
        · omega
        · cases h2
      · cases h1
theorem facZ_same (sq : List Int) {i : Nat} (hi : i < sq.length) : facZ sq (2 ^ i) (2 ^ i) = sq.getD i 0 := by
  unfold facZ
  rw [swaps_pow, if_pos hi, comZ_pow, if_pos ⟨rfl, hi⟩, Nat.div_eq_of_lt (Nat.pow_lt_pow_right (by decide) (by omega)), pc_zero]
  show 1 * _ = _
  rw [Int.one_mul]
theorem facZ_less (sq : List Int) {i j : Nat} (h : i < j) (hj : j < sq.length) : facZ sq (2 ^ i) (2 ^ j) = 1 ∧ facZ sq (2 ^ j) (2 ^ i) = -1 := by
  unfold facZ
  rw [swaps_pow, if_pos hj, comZ_pow, if_neg (by omega), swaps_pow, if_pos (by omega), comZ_pow, if_neg (by omega), Nat.div_eq_of_lt (Nat.pow_lt_pow_right (by decide) (by omega)), pc_zero]
  refine ⟨rfl, ?_⟩
  rw [Nat.pow_div (by omega) (by decide), pc_pow]
  rfl
theorem facZ_both (sq : List Int) {i j : Nat} (hi : i < sq.length) (hj : j < sq.length) : facZ sq (2 ^ i) (2 ^ j) + facZ sq (2 ^ j) (2 ^ i) = if i = j then 2 * sq.getD i 0 else 0 := by
  rcases Nat.lt_trichotomy i j with h | h | h
  · rw [(facZ_less sq h hj).1, (facZ_less sq h hj).2, if_neg (by omega)]; rfl
  · subst h; rw [facZ_same sq hi, if_pos rfl]; omega
  · rw [(facZ_less sq h hi).1, (facZ_less sq h hi).2, if_neg (by omega)]; rfl
/-- The product of two vectors, over the integers. -/
def bil (sq v u : List Int) : Int := sumTo sq.length fun i => v.getD i 0 * u.getD i 0 * sq.getD i 0
theorem bil_symm (sq v u : List Int) : bil sq v u = bil sq u v := sumTo_congr fun i _ => by rw [Int.mul_comm (v.getD i 0)]
/-- The product of vectors, at a place. -/
theorem mulZ_vec (sq u v : List Int) {m : Nat} (hm : m < pw sq.length) :
    mulZ sq (fun b => sumTo sq.length fun i => if b = 2 ^ i then u.getD i 0 else 0) (fun b => sumTo sq.length fun i => if b = 2 ^ i then v.getD i 0 else 0) m
      = sumTo sq.length fun i => sumTo sq.length fun j => if 2 ^ i ^^^ 2 ^ j = m then u.getD i 0 * v.getD j 0 * facZ sq (2 ^ i) (2 ^ j) else 0 := by
  unfold mulZ
  rw [sumTo_congr (g := fun a => sumTo sq.length fun i => if a = 2 ^ i then sumTo sq.length fun j => if 2 ^ i ^^^ 2 ^ j = m then u.getD i 0 * v.getD j 0 * facZ sq (2 ^ i) (2 ^ j) else 0 else 0) fun a ha => ?_, sumTo_comm]
  · refine sumTo_congr fun i hi => ?_
    rw [sumTo_one (2 ^ i) (two_lt hi) fun a _ hne => if_neg hne, if_pos rfl]
  · rw [← sumTo_mul_right, ← sumTo_mul_right]
    refine sumTo_congr fun i _ => ?_
    by_cases h : a = 2 ^ i
    · rw [if_pos h, if_pos h, ← sumTo_mul, ← sumTo_mul_right]
      refine sumTo_congr fun j _ => ?_
      by_cases h2 : 2 ^ i ^^^ 2 ^ j = m
      · rw [if_pos h2, h, if_pos ((xor_eq_iff _ _ _).1 h2).symm, ← (xor_eq_iff _ _ _).1 h2]
      · rw [if_neg h2, h, if_neg (fun e => h2 ((xor_eq_iff _ _ _).2 e.symm)), Int.mul_zero, Int.zero_mul]
    · rw [if_neg h, if_neg h, Int.zero_mul, Int.zero_mul]
/-- Vectors: the sum of both products is twice the number of the product. -/
theorem Cl.vec_anti (hp : 0 < p) (u v : List Int) : (Cl.vec hp u : Cl p sq) * Cl.vec hp v + Cl.vec hp v * Cl.vec hp u = (2 * bil sq u v) * Cl.one hp := Cl.same fun m hm => by
  rw [Cl.add_co _ _ hm, Int.add_emod, Cl.mul_co _ _ hm, Cl.mul_co _ _ hm, mulZ_cg p sq (fun a ha => Cl.vec_co hp u ha) (fun a ha => Cl.vec_co hp v ha) hm,
    mulZ_cg p sq (fun a ha => Cl.vec_co hp v ha) (fun a ha => Cl.vec_co hp u ha) hm, ← Int.add_emod, mulZ_vec sq u v hm, mulZ_vec sq v u hm, Cl.sm_co _ _ hm, Int.mul_emod (2 * _), Cl.one_co hp hm, ← Int.mul_emod]
  congr 1
  rw [sumTo_comm sq.length sq.length (fun i j => if 2 ^ i ^^^ 2 ^ j = m then v.getD i 0 * u.getD j 0 * facZ sq (2 ^ i) (2 ^ j) else 0), ← sumTo_add]
  unfold bil
  rw [← sumTo_mul, ← sumTo_mul_right]
  refine sumTo_congr fun i hi => ?_
  rw [← sumTo_add]
  have key : ∀ j, j < sq.length → ((if 2 ^ i ^^^ 2 ^ j = m then u.getD i 0 * v.getD j 0 * facZ sq (2 ^ i) (2 ^ j) else 0) + if 2 ^ j ^^^ 2 ^ i = m then v.getD j 0 * u.getD i 0 * facZ sq (2 ^ j) (2 ^ i) else 0) = if 2 ^ i ^^^ 2 ^ j = m then u.getD i 0 * v.getD j 0 * (if i = j then 2 * sq.getD i 0 else 0) else 0 := fun j hj => by
    rw [Nat.xor_comm (2 ^ j)]
    by_cases h : 2 ^ i ^^^ 2 ^ j = m
    · rw [if_pos h, if_pos h, if_pos h, Int.mul_comm (v.getD j 0), ← Int.mul_add, facZ_both sq hi hj]
    · rw [if_neg h, if_neg h, if_neg h]; rfl
  rw [sumTo_congr key, sumTo_one i hi fun j _ hne => by
    split
    · rw [if_neg (fun e => hne e.symm), Int.mul_zero]
    · rfl]
  rw [if_pos rfl, Nat.xor_self]
  by_cases h : m = 0
  · rw [if_pos h, if_pos h.symm, Int.mul_one, Int.mul_left_comm]
  · rw [if_neg h, if_neg (fun e => h e.symm), Int.mul_zero]
end
end Go.Proofs.YtggigolkncckoaaGreat
namespace Go.Proofs.YtggigolkncckoaaGreat
/-- m after k columns with d rows done; c: the places of the firsts. -/
structure Ech (m : List (List Int)) (k d : Nat) (c : Nat → Nat) : Prop where
  lt : ∀ i, i < d → c i < k
  mono : ∀ i j, i < j → j < d → c i < c j
  one : ∀ i, i < d → ent m i (c i) = 1
  zero : ∀ i, i < d → ∀ r, r < m.length → r ≠ i → ent m r (c i) = 0
  before : ∀ i, i < d → ∀ q, q < c i → ent m i q = 0
  rest : ∀ r, d ≤ r → r < m.length → ∀ q, q < k → ent m r q = 0
theorem ent_set {m : List (List Int)} {d : Nat} {x : List Int} (hd : d < m.length) (r q : Nat) : ent (m.set d x) r q = if r = d then x.getD q 0 else ent m r q := by
  unfold ent
  rw [getD_set]
  by_cases h : r = d
  · rw [if_pos ⟨h.symm, hd⟩, if_pos h]
  · rw [if_neg (fun hh => h hh.1.symm), if_neg h]
theorem ent_swap {m : List (List Int)} {i j : Nat} (hi : i < m.length) (hj : j < m.length) (r q : Nat) : ent (swapL m i j) r q = if r = j then ent m i q else if r = i then ent m j q else ent m r q := by
  unfold swapL
  rw [ent_set (by rw [List.length_set]; exact hj)]
  split
  · rfl
  · rw [ent_set hi]
    split
    · rfl
    · rfl
theorem ent_scaled {p : Int} {m : List (List Int)} {k d v : Nat} (hv : pivOf m k d = v) (hd : d < m.length) (hvl : v < m.length) {n : Nat} (hT : Tab p n m) (r q : Nat) (hq : q < n) :
    ent (scaledAt p m k d) r q = if r = d then ent m v q * invF p (ent m v k) % p else if r = v then ent m d q else ent m r q := by
  unfold scaledAt
  rw [hv, ent_set (by rw [swapL_len]; exact hd)]
  by_cases h : r = d
  · rw [if_pos h, if_pos h, scaleL_getD _ (by rw [(hT.row hvl).1]; exact hq)]; rfl
  · rw [if_neg h, if_neg h, ent_swap hd hvl]
    by_cases h2 : r = v
    · rw [if_pos h2, if_pos h2]
    · rw [if_neg h2, if_neg h2, if_neg h]
theorem ent_cleared {p : Int} {n : Nat} {m : List (List Int)} (hT : Tab p n m) (d k r q : Nat) (hr : r < m.length) (hq : q < n) :
    ent (clearTo p m d k m.length) r q = if r = d then ent m d q else (ent m r q + -(ent m r k) * ent m d q) % p := by
  show ((clearTo p m d k m.length).getD r []).getD q 0 = _
  rw [clearTo_getD hr]
  by_cases h : r = d
  · rw [if_neg (fun hh => hh.2 h), if_pos h, h]; rfl
  · rw [if_pos ⟨hr, h⟩, if_neg h, plusL_getD _ _ (by rw [(hT.row hr).1]; exact hq)]; rfl
theorem Ech.step {p : Int} (hP : isP p = true) {n : Nat} {s : List (List Int) × Nat} {k : Nat} {c : Nat → Nat} (hT : Tab p n s.1) (hd : s.2 ≤ s.1.length) (hk : k < n) (h : Ech s.1 k s.2 c) : ∃ c', Ech (stepB p k s).1 (k + 1) (stepB p k s).2 c' := by
  obtain ⟨m, d⟩ := s
  simp only at hT hd h
  obtain ⟨hb1, hb2⟩ := pivOf_bound m k d hd
  have hp : 2 ≤ p := by have := isP_ge hP; omega
  unfold stepB
  simp only
  by_cases hv : pivOf m k d = m.length
  · rw [if_pos hv]
    refine ⟨c, fun i hi => by have := h.lt i hi; omega, h.mono, h.one, h.zero, h.before, fun r h1 h2 q hq => ?_⟩
    by_cases hqk : q = k
    · subst hqk
      have h2' : r < m.length := h2
      exact piv_before m q (m.length - d) d r h1 (by show r < pivOf m q d; omega)
    · exact h.rest r h1 h2 q (by omega)
  · rw [if_neg hv]
    obtain ⟨v, hvv⟩ : ∃ v, v = pivOf m k d := ⟨_, rfl⟩
    rw [← hvv] at hb1 hb2 hv
    have hvl : v < m.length := by omega
    have hdl : d < m.length := by omega
    have hne : ent m v k ≠ 0 := by rw [hvv]; exact piv_at m k (m.length - d) d (by show pivOf m k d < _; omega)
    have hrange := hT.ent (by omega) v k
    obtain ⟨i1, i2, i3⟩ := inv_spec hP (show 0 < ent m v k by omega) hrange.2
    have hone : ent m v k * invF p (ent m v k) % p = 1 := (i3 _ (by omega) i2).2 rfl
    have hT1 : Tab p n (scaledAt p m k d) := scaledAt_tab (by omega) hT hdl (by omega)
    have hl1 : (scaledAt p m k d).length = m.length := scaledAt_len p m k d
    have e1 := fun r q (hq : q < n) => ent_scaled (p := p) (m := m) (k := k) (d := d) hvv.symm hdl hvl hT r q hq
    have e2 := fun r q (hr : r < m.length) (hq : q < n) => ent_cleared (p := p) hT1 d k r q (by rw [hl1]; exact hr) hq
    rw [hl1] at e2
    have c1 : ∀ i, i < d → c i < n := fun i hi => by have := h.lt i hi; omega
    have z1 : ∀ q, q < k → ent (scaledAt p m k d) d q = 0 := fun q hq => by
      rw [e1 d q (by omega), if_pos rfl, h.rest v hb1 hvl q hq]; simp
    have o1 : ent (scaledAt p m k d) d k = 1 := by rw [e1 d k hk, if_pos rfl, hone]
    refine ⟨fun i => if i = d then k else c i, ?_, ?_, ?_, ?_, ?_, ?_⟩
    · intro i hi
      show (if i = d then k else c i) < k + 1
      split
      · omega
      · have := h.lt i (by omega); omega
    · intro i j hij hj
      show (if i = d then k else c i) < (if j = d then k else c j)
      rw [if_neg (show i ≠ d by omega)]
      split
      · exact h.lt i (by omega)
      · exact h.mono i j hij (by omega)
    · intro i hi
      show ent _ i (if i = d then k else c i) = 1
      by_cases hid : i = d
      · rw [if_pos hid, e2 i k (by omega) hk, if_pos hid, o1]
      · have hi' : i < d := by omega
        rw [if_neg hid, e2 i _ (by omega) (c1 i hi'), if_neg hid, z1 _ (h.lt i hi'), e1 i _ (c1 i hi'), if_neg hid, if_neg (show i ≠ v by omega), h.one i hi', Int.mul_zero]
        exact Int.emod_eq_of_lt (by omega) (by omega)
    · intro i hi r hr hri
      rw [clearTo_len, hl1] at hr
      show ent _ r (if i = d then k else c i) = 0
      by_cases hid : i = d
      · rw [if_pos hid, e2 r k hr hk, if_neg (fun e => hri (e.trans hid.symm)), o1, Int.mul_one]
        rw [Int.add_right_neg]; simp
      · have hi' : i < d := by omega
        rw [if_neg hid, e2 r _ hr (c1 i hi')]
        by_cases hrd : r = d
        · rw [if_pos hrd]; exact z1 _ (h.lt i hi')
        · rw [if_neg hrd, z1 _ (h.lt i hi'), e1 r _ (c1 i hi'), if_neg hrd]
          by_cases hrv : r = v
          · rw [if_pos hrv, h.zero i hi' d hdl (by omega)]; simp
          · rw [if_neg hrv, h.zero i hi' r hr hri]; simp
    · intro i hi q hq
      by_cases hid : i = d
      · have hq' : q < k := by simpa [hid] using hq
        rw [e2 i q (by omega) (by omega), if_pos hid]
        exact z1 q hq'
      · have hq' : q < c i := by simpa [hid] using hq
        have hi' : i < d := by omega
        have := h.lt i hi'
        rw [e2 i q (by omega) (by omega), if_neg hid, z1 q (by omega), e1 i q (by omega), if_neg hid, if_neg (show i ≠ v by omega), h.before i hi' q hq']
        simp
    · intro r h1 h2 q hq
      rw [clearTo_len, hl1] at h2
      rw [e2 r q h2 (by omega), if_neg (show r ≠ d by simp only at h1; omega)]
      by_cases hqk : q = k
      · subst hqk
        rw [o1, Int.mul_one, Int.add_right_neg]; simp
      · have hq' : q < k := by omega
        have h1' : d + 1 ≤ r := h1
        rw [z1 q hq', e1 r q (by omega), if_neg (show r ≠ d by omega)]
        by_cases hrv : r = v
        · rw [if_pos hrv, h.rest d (Nat.le_refl _) hdl q hq']; simp
        · rw [if_neg hrv, h.rest r (by omega) h2 q hq']; simp
/-- The place of the first number of row i. -/
def ld (B : List (List Int)) (i : Nat) : Nat := leadL (B.getD i [])
/-- A reduced basis of lists of n numbers. -/
structure Red (n : Nat) (B : List (List Int)) : Prop where
  lt : ∀ i, i < B.length → ld B i < n
  one : ∀ i, i < B.length → ent B i (ld B i) = 1
  zero : ∀ i r, i < B.length → r < B.length → r ≠ i → ent B r (ld B i) = 0
  mono : ∀ i j, i < j → j < B.length → ld B i < ld B j
theorem Red.before {n : Nat} {B : List (List Int)} (_h : Red n B) (i q : Nat) (hq : q < ld B i) : ent B i q = 0 := leadL_before _ q hq
theorem Red.inj {n : Nat} {B : List (List Int)} (h : Red n B) {i j : Nat} (hi : i < B.length) (hj : j < B.length) (e : ld B i = ld B j) : i = j := by
  rcases Nat.lt_trichotomy i j with hl | hl | hl
  · have := h.mono i j hl hj; omega
  · exact hl
  · have := h.mono j i hl hi; omega
theorem Red.nil (n : Nat) : Red n [] := ⟨fun i hi => absurd hi (by simp), fun i hi => absurd hi (by simp), fun i r hi => absurd hi (by simp), fun i j _ hj => absurd hj (by simp)⟩
theorem Red.len {n : Nat} {B : List (List Int)} (h : Red n B) : B.length ≤ n := by
  have hle : ∀ j, j < B.length → j ≤ ld B j := by
    intro j
    induction j with
    | zero => intro _; omega
    | succ j ih =>
      intro hj
      have h1 := ih (by omega)
      have h2 := h.mono j (j + 1) (by omega) hj
      omega
  by_cases h0 : B.length = 0
  · omega
  · have h1 := hle (B.length - 1) (by omega)
    have h2 := h.lt (B.length - 1) (by omega)
    omega
end Go.Proofs.YtggigolkncckoaaGreat
namespace Go.Proofs.YtggigolkncckoaaGreat
open Go.RowKit
theorem Nest.setNew {w1 w2 : World} {B : Nat} {rows : List Value} {xss : List (List Int)} {A : Option Addr} {n c : Nat} {xs : List Int} (h : Nest w1 B rows xss) (hr : Mk w1 w2 2 A n c (ints xs)) (hB : B ≤ w1.heap.size) (k : Nat) :
    Nest w2 B (rows.set k (.slice A n c)) (xss.set k xs) := by
  have hn : xs.length = n := by have := hr.2.len; rwa [ints_length] at this
  subst hn
  have hnew : ∀ g, (Value.slice A xs.length c).ownBlock = some g → w1.heap.size ≤ g := fun g hg => (World.ownsRow.lt hr.2 g hg).1
  refine ⟨by simp [h.len], fun j hj => ?_, fun i j g hij hi => ?_⟩
  · have hj' : j < xss.length := by simpa using hj
    by_cases hk : k = j
    · subst hk
      rw [List.getElem_set_self]
      exact ⟨A, c, by rw [List.getElem?_set_self (by rw [h.len]; exact hj')], hr.2.base hB⟩
    · obtain ⟨A', c', e, ho⟩ := h.row j hj'
      rw [List.getElem_set_ne hk]
      exact ⟨A', c', by rw [List.getElem?_set_ne hk]; exact e, ho.below hr.1⟩
  · rw [List.getElem?_set] at hi ⊢
    by_cases hki : k = i
    · subst hki
      rw [if_pos rfl] at hi
      rw [if_neg (by omega)]
      split at hi
      · intro hj
        have h1 := (h.block j g hj).2
        have h2 := hnew g (by simpa using hi)
        omega
      · simp at hi
    · rw [if_neg hki] at hi
      have hgi := (h.block i g hi).2
      by_cases hkj : k = j
      · rw [if_pos hkj]
        split
        · intro hj
          have h2 := hnew g (by simpa using hj)
          omega
        · simp
      · rw [if_neg hkj]
        exact h.apart i j g hij hi
section
variable {w0 w w1 w2 : World} {g n c : Nat} {xss : List (List Int)}
theorem MkII.frozen_ (h : MkII w0 w (some ⟨g, 0, none⟩) n c xss) (k : Nat) : w.frozen? ⟨g, k, none⟩ = false := by
  obtain ⟨rows, hm, _⟩ := h
  exact hm.2.frozen_ k
/-- The list cut down. -/
theorem MkII.cut {A : Option Addr} {k : Nat} (h : MkII w0 w A n c xss) (hk : k ≤ n) : MkII w0 w A k c (xss.take k) := by
  obtain ⟨rows, hm, hn⟩ := h
  refine ⟨rows.take k, ⟨hm.1, hm.2.cut hk⟩, by rw [List.length_take, List.length_take, hn.len], fun j hj => ?_, fun i j b hij hi => ?_⟩
  · have hj2 : j < k ∧ j < xss.length := by rw [List.length_take] at hj; omega
    obtain ⟨A', c', e, ho⟩ := hn.row j hj2.2
    rw [List.getElem_take]
    exact ⟨A', c', by rw [List.getElem?_take, if_pos hj2.1]; exact e, ho⟩
  · rw [List.getElem?_take] at hi ⊢
    split at hi
    · split
      · exact hn.apart i j b hij hi
      · simp
    · simp at hi
end
theorem Own.keep {w w' : World} {B : Nat} {E : TypeId} {A : Option Addr} {n c : Nat} {us : List Value} (h : Own w B E A n c us) (hk : ∀ b, B ≤ b → b < w.heap.size → w'.heap[b]? = w.heap[b]?) : Rd w' A n us := by
  refine ⟨h.len, fun hn => ?_⟩
  rcases h.form with ⟨_, h0⟩ | ⟨g, rfl, hg, hg2⟩
  · omega
  · obtain ⟨g', o, e, hc⟩ := h.rd.2 hn
    refine ⟨g', o, e, fun k u hu => ?_⟩
    injection e with e
    injection e with e1 _ _
    subst e1
    exact (World.cell?_of_block (hk g hg hg2)).trans (hc k u hu)
theorem MkII.keep {w0 w w' : World} {A : Option Addr} {n c : Nat} {xss : List (List Int)} (h : MkII w0 w A n c xss) (hk : ∀ b, w0.heap.size ≤ b → b < w.heap.size → w'.heap[b]? = w.heap[b]?) : RdII w' A n xss := by
  obtain ⟨rows, hm, hn⟩ := h
  exact ⟨rows, hm.2.keep hk, hn.len, fun k hk' => by obtain ⟨A', c', e, ho⟩ := hn.row k hk'; exact ⟨A', c', e, ho.keep hk, ho.cap⟩⟩
/-- What is kept of the blocks between two sizes, and where a list lies that grows. -/
def Keeps (w2 w3 wr : World) (v : Value) : Prop := w3.heap.size ≤ wr.heap.size ∧ (∀ b, w2.heap.size ≤ b → b < w3.heap.size → wr.heap[b]? = w3.heap[b]?) ∧ ∀ gb, v.ownBlock = some gb → gb < w2.heap.size ∨ w3.heap.size ≤ gb
theorem Keeps.step {w2 w3 wr w5 w6 : World} {A A' : Option Addr} {n c c' n' : Nat} (h : Keeps w2 w3 wr (.slice A n c)) (hb : Below wr.heap.size wr w5) (hg : w5.grownBy w6 (Value.slice A n c).ownBlock)
    (hat : ∃ g, A' = some ⟨g, 0, none⟩ ∧ ((Value.slice A n c).ownBlock = some g ∨ w5.heap.size ≤ g)) : Keeps w2 w3 w6 (.slice A' n' c') := by
  obtain ⟨h1, h2, h3⟩ := h
  have s1 := hb.size
  have s2 := hg.size
  refine ⟨by omega, fun b hb1 hb2 => ?_, fun gb hgb => ?_⟩
  · rw [hg.block b (by omega) (fun e => ?_), hb.block b (by omega), h2 b hb1 hb2]
    rcases h3 b e.symm with h | h <;> omega
  · obtain ⟨g, rfl, hor⟩ := hat
    have : g = gb := by simpa [Value.ownBlock] using hgb
    subst this
    rcases hor with he | he
    · exact h3 g he
    · right; omega
theorem MkII.ne_blk {w0 w : World} {A : Option Addr} {n c g : Nat} {xss : List (List Int)} {t : TypeId} {cs : Array Value} (h : MkII w0 w A n c xss) (hb : Blk w g t cs) (hE : 24 ≠ t) : some g ≠ (Value.slice A n c).ownBlock := by
  obtain ⟨rows, hm, _⟩ := h
  exact hm.2.ne_blk hb hE
end Go.Proofs.YtggigolkncckoaaGreat
namespace Go.Proofs.YtggigolkncckoaaGreat
open Go.RowKit Go.Maps
/-- The map from the places of the firsts to the rows, of the first j rows. -/
structure Places {H : Type} (B : List (List Int)) (j : Nat) (D : DataW H) : Prop where
  map : IsMap D
  has : ∀ k : Nat, Maps.has D (.int .i64 k) = true ↔ ∃ i, i < j ∧ ld B i = k
  only : ∀ z : Lit, Maps.has D z = true → ∃ k : Nat, z = .int .i64 k
  val : ∀ i, i < j → ∀ zd, D.atKey (.int .i64 (ld B i)) zd = .lit (.int .i64 i)
theorem lit_ne {a b : Int} (h : a ≠ b) : Lit.int .i64 a ≠ Lit.int .i64 b := fun e => h (by injection e)
theorem Places.step {H : Type} {n : Nat} {B : List (List Int)} (hR : Red n B) {j : Nat} {D : DataW H} (h : Places B j D) (hj : j < B.length) : Places B (j + 1) (D.put (.int .i64 (ld B j)) (.lit (.int .i64 j))) := by
  refine ⟨h.map.put _ _, fun k => ?_, fun z hz => ?_, fun i hi zd => ?_⟩
  · by_cases hk : k = ld B j
    · subst hk
      exact ⟨fun _ => ⟨j, by omega, rfl⟩, fun _ => has_put_same h.map (show WideAt.IsKeyLit (.int .i64 (ld B j)) from trivial) _⟩
    · rw [has_put_other (lit_ne (by omega)), h.has k]
      constructor
      · rintro ⟨i, hi, e⟩; exact ⟨i, by omega, e⟩
      · rintro ⟨i, hi, e⟩
        refine ⟨i, ?_, e⟩
        by_cases hij : i = j
        · subst hij; exact absurd e.symm hk
        · omega
  · by_cases hk : z = .int .i64 (ld B j)
    · exact ⟨_, hk⟩
    · rw [has_put_other hk] at hz
      exact h.only z hz
  · by_cases hij : i = j
    · subst hij
      exact atKey_put_same h.map (show WideAt.IsKeyLit (.int .i64 (ld B i)) from trivial) _ _
    · rw [atKey_put_other (lit_ne (fun e => hij (hR.inj (by omega) hj (by omega))))]
      exact h.val i (by omega) zd
end Go.Proofs.YtggigolkncckoaaGreat
namespace Go.Proofs.YtggigolkncckoaaGreat
open Go.RowKit
/-- A vector with all numbers multiplied by the squares. -/
def weiL (P : Int) (sq v : List Int) : List Int := tab v.length fun i => v.getD i 0 * sq.getD i 0 % P
theorem weiL_len (P : Int) (sq v : List Int) : (weiL P sq v).length = v.length := tab_len _ _
theorem weiL_nums {P : Int} (hp : 0 < P) (sq v : List Int) : NumsL P (weiL P sq v) := NumsL.tab fun i _ => ⟨Int.emod_nonneg _ (by omega), Int.emod_lt_of_pos _ hp⟩
/-- The product of two vectors. -/
def pairL (P : Int) (sq v u : List Int) : Int := dotL P (weiL P sq v) u
theorem pairL_sum {P : Int} {sq v u : List Int} {n : Nat} (hv : v.length = n) : pairL P sq v u = (sumTo n fun i => v.getD i 0 * u.getD i 0 % P * sq.getD i 0) % P := by
  unfold pairL dotL
  rw [weiL_len, hv]
  refine sumTo_mod P fun i hi => ?_
  unfold weiL
  rw [tab_getD (by omega), Int.mul_emod, Int.emod_emod_of_dvd _ (Int.dvd_refl P), ← Int.mul_emod, Int.mul_emod (v.getD i 0 * u.getD i 0 % P), Int.emod_emod_of_dvd _ (Int.dvd_refl P), ← Int.mul_emod, Int.mul_assoc, Int.mul_comm (sq.getD i 0), ← Int.mul_assoc]
set_option maxHeartbeats 3200000 in
set_option maxRecDepth 8000 in
theorem weighted_any (P : Int) (A : Option Addr) (n c : Nat) (sq : List Int) (X : Option Addr) (cx : Nat) (v : List Int) (w : World) (hp : 2 ≤ P) (hp2 : P ≤ 13) (hn : n ≤ 6) (ha : Rd w A n (ints sq)) (hs : NumsL P sq) (hx : Rd w X n (ints v)) (hv : NumsL P v) :
    Calls Tryz.prog 322 #[.agg #[.int .i64 P, .slice A n c], .slice X n cx] w fun e w' => ∃ A' c', e = .returned (.slice A' n c') ∧ MkI w w' A' n c' (weiL P sq v) := by
  have HL : Hid (weiL P sq v = tab n fun i => v.getD i 0 * sq.getD i 0 % P) := Lib.hid (by unfold weiL; rw [hx.lenI])
  have hB0 : Below w.heap.size w (w.alloc (.cells #[.int .i64 P, .slice A n c] 26)) := (Below.refl _ _).alloc (Nat.le_refl _) _
  have k0 : Blk (w.alloc (.cells #[.int .i64 P, .slice A n c] 26)) w.heap.size 26 #[.int .i64 P, .slice A n c] := Blk.new _ _ _
  have k1 := k0.alloc (.cells #[] 2)
  have hM0 := Mk.lit (E := 2) hB0 #[] (by simp)
  have hM1 : MkI w ((w.alloc (.cells #[.int .i64 P, .slice A n c] 26)).alloc (.cells #[] 2)) (some ⟨w.heap.size + 1, 0, none⟩) 0 0 (tab 0 fun i => v.getD i 0 * sq.getD i 0 % P) := by
    simpa [MkI, ints, tab] using hM0
  clear k0 hB0 hM0
  go_enter Tryz.func322, Tryz.ntmps322
  go_wp2
  go_loopw [5, 6, 7, 11] (fun out _ _ i wr => ∃ (j : Nat) (A' : Option Addr) (c' : Nat), j ≤ n ∧ i = .int .i64 j ∧ out = .slice A' j c' ∧ MkI w wr A' j c' (tab j fun i => v.getD i 0 * sq.getD i 0 % P) ∧ Blk wr w.heap.size 26 #[.int .i64 P, .slice A n c]) (fun _ _ _ i _ => n - (intOf i).toNat)
  case atStart => exact ⟨0, _, _, by omega, rfl, rfl, hM1, k1⟩
  case round =>
    obtain ⟨j, A', c', hj, rfl, rfl, hM, k2⟩ := hrel
    clear hM1 k1
    obtain ⟨q0, q1⟩ := k2.two
    by_cases hlt : j < n
    · obtain ⟨g, o, rfl, hxj, hcx⟩ := (hx.below hM.b).int hlt
      obtain ⟨g2, o2, rfl, hyj, hcy⟩ := (ha.below hM.b).int hlt
      obtain ⟨x1, x2⟩ := hv _ (List.getElem_mem hxj)
      obtain ⟨y1, y2⟩ := hs _ (List.getElem_mem hyj)
      have HV : Hid ((tab (j + 1) fun i => v.getD i 0 * sq.getD i 0 % P) = (tab j fun i => v.getD i 0 * sq.getD i 0 % P) ++ [v[j] * sq[j] % P]) := Lib.hid (by rw [tab_succ, getD_of_lt 0 hxj, getD_of_lt 0 hyj])
      obtain ⟨xa, hxe⟩ : ∃ xa, xa = v[j] := ⟨_, rfl⟩
      obtain ⟨ya, hye⟩ : ∃ ya, ya = sq[j] := ⟨_, rfl⟩
      rw [← hxe] at hcx x1 x2 HV
      rw [← hye] at hcy y1 y2 HV
      obtain ⟨m1, m2⟩ := mul_small x1 (show xa ≤ 13 by omega) y1 (show ya ≤ 13 by omega)
      have W1 := i64_fit (xa * ya) (by omega) (by omega)
      have i1 : (0 : Int) ≤ (j : Int) := by omega
      have i2 : (j : Int) < (n : Int) := by omega
      have HM := Lib.hid hM
      clear hxe hye hxj hyj hM
      go_wp2
      refine wp_obs 12 [[], [], [1], [], [], [4], [], [4, 5, 6], [4, 5, 6, 7], [3, 4, 5, 6, 7, 8], [1, 2, 3, 4, 5, 6, 7, 8, 9], [1, 2, 3, 4, 5, 6, 7, 8, 9, 10], [0, 1, 2, 3, 4, 5, 6, 7, 8, 9, 10, 11], [0, 1, 2, 3, 4, 5, 6, 7, 8, 9, 10, 11, 12]] [VIs (.slice A' j c'), VIs (.agg #[.int .i64 P, .slice (some ⟨g2, o2, none⟩) n c]), VIs (.int .i64 (P)), VIs (.int .i64 (xa)), VIs (.pointer (some ⟨w.heap.size, 1, none⟩)), VIs (.slice (some ⟨g2, o2, none⟩) n c), VIs (.int .i64 (j)), VIs (.pointer (some ⟨g2, o2 + j, none⟩)), VIs (.int .i64 (ya)), VIs (.int .i64 (xa * ya)), VIs (.int .i64 (xa * ya % P)), VBs 2 #[.int .i64 (xa * ya % P)]] (fun w' => w'.cell? ⟨g2, o2 + j, none⟩ = some (.int .i64 ya) ∧ Blk w' w.heap.size 26 #[.int .i64 P, .slice (some ⟨g2, o2, none⟩) n c] ∧ Below wr.heap.size wr w') (by kernel_rfl) (by kernel_rfl) (fun _ _ h hb => ⟨(hb.cell (World.block_lt_of_cell? _ _ h.1)).trans h.1, h.2.1.below hb h.2.1.lt, h.2.2.trans (hb.mono h.2.2.size)⟩) (⟨hcy, k2.drew, (Below.refl _ _).drew⟩) (fun x => ?_)
      refine obs_step (Eq.trans (by simp only [List.getElem?_toArray, List.getElem?_cons_zero]; exact rfl) rfl) rfl (fun w' hS hV K hK => ?_) ?_
      · have q2 := hS.1; obtain ⟨q0, q1⟩ := hS.2.1.two
        go_simp
        exact hK.out _ _ _ rfl rfl rfl (Below.refl _ _)
      simp only [List.setIfInBounds_toArray, List.set_cons_zero, List.set_cons_succ]
      refine obs_step (Eq.trans (by simp only [List.getElem?_toArray, List.getElem?_cons_succ, List.getElem?_cons_zero]; exact rfl) rfl) rfl (fun w' hS hV K hK => ?_) ?_
      · have q2 := hS.1; obtain ⟨q0, q1⟩ := hS.2.1.two
        go_simp
        exact hK.out _ _ _ rfl rfl rfl (Below.refl _ _)
      simp only [List.setIfInBounds_toArray, List.set_cons_zero, List.set_cons_succ]
      refine obs_step (Eq.trans (by simp only [List.getElem?_toArray, List.getElem?_cons_succ, List.getElem?_cons_zero]; exact rfl) rfl) rfl (fun w' hS hV K hK => ?_) ?_
      · have e1 : x 1 = (.agg #[.int .i64 P, .slice (some ⟨g2, o2, none⟩) n c]) := hV 1 (by decide)
        have q2 := hS.1; obtain ⟨q0, q1⟩ := hS.2.1.two
        go_simp
        refine (field_any _ _ _ _ _).mono ?_
        rintro e v1 ⟨rfl, hb⟩
        exact hK.out _ _ _ rfl rfl rfl hb
      simp only [List.setIfInBounds_toArray, List.set_cons_zero, List.set_cons_succ]
      refine obs_step (Eq.trans (by simp only [List.getElem?_toArray, List.getElem?_cons_succ, List.getElem?_cons_zero]; exact rfl) rfl) rfl (fun w' hS hV K hK => ?_) ?_
      · have q2 := hS.1; obtain ⟨q0, q1⟩ := hS.2.1.two
        go_simp
        exact hK.out _ _ _ rfl rfl rfl (Below.refl _ _)
      simp only [List.setIfInBounds_toArray, List.set_cons_zero, List.set_cons_succ]
      refine obs_step (Eq.trans (by simp only [List.getElem?_toArray, List.getElem?_cons_succ, List.getElem?_cons_zero]; exact rfl) rfl) rfl (fun w' hS hV K hK => ?_) ?_
      · have q2 := hS.1; obtain ⟨q0, q1⟩ := hS.2.1.two
        go_simp
        exact hK.out _ _ _ rfl rfl rfl (Below.refl _ _)
      simp only [List.setIfInBounds_toArray, List.set_cons_zero, List.set_cons_succ]
      refine obs_step (Eq.trans (by simp only [List.getElem?_toArray, List.getElem?_cons_succ, List.getElem?_cons_zero]; exact rfl) rfl) rfl (fun w' hS hV K hK => ?_) ?_
      · have e4 : x 4 = (.pointer (some ⟨w.heap.size, 1, none⟩)) := hV 4 (by decide)
        have q2 := hS.1; obtain ⟨q0, q1⟩ := hS.2.1.two
        go_simp
        exact hK.out _ _ _ rfl rfl rfl (Below.refl _ _)
      simp only [List.setIfInBounds_toArray, List.set_cons_zero, List.set_cons_succ]
      refine obs_step (Eq.trans (by simp only [List.getElem?_toArray, List.getElem?_cons_succ, List.getElem?_cons_zero]; exact rfl) rfl) rfl (fun w' hS hV K hK => ?_) ?_
      · have q2 := hS.1; obtain ⟨q0, q1⟩ := hS.2.1.two
        go_simp
        exact hK.out _ _ _ rfl rfl rfl (Below.refl _ _)
      simp only [List.setIfInBounds_toArray, List.set_cons_zero, List.set_cons_succ]
      refine obs_step (Eq.trans (by simp only [List.getElem?_toArray, List.getElem?_cons_succ, List.getElem?_cons_zero]; exact rfl) rfl) rfl (fun w' hS hV K hK => ?_) ?_
      · have e4 : x 4 = (.pointer (some ⟨w.heap.size, 1, none⟩)) := hV 4 (by decide)
        have e5 : x 5 = (.slice (some ⟨g2, o2, none⟩) n c) := hV 5 (by decide)
        have e6 : x 6 = (.int .i64 (j)) := hV 6 (by decide)
        have q2 := hS.1; obtain ⟨q0, q1⟩ := hS.2.1.two
        go_simp
        exact hK.out _ _ _ rfl rfl rfl (Below.refl _ _)
      simp only [List.setIfInBounds_toArray, List.set_cons_zero, List.set_cons_succ]
      refine obs_step (Eq.trans (by simp only [List.getElem?_toArray, List.getElem?_cons_succ, List.getElem?_cons_zero]; exact rfl) rfl) rfl (fun w' hS hV K hK => ?_) ?_
      · have e4 : x 4 = (.pointer (some ⟨w.heap.size, 1, none⟩)) := hV 4 (by decide)
        have e5 : x 5 = (.slice (some ⟨g2, o2, none⟩) n c) := hV 5 (by decide)
        have e6 : x 6 = (.int .i64 (j)) := hV 6 (by decide)
        have e7 : x 7 = (.pointer (some ⟨g2, o2 + j, none⟩)) := hV 7 (by decide)
        have q2 := hS.1; obtain ⟨q0, q1⟩ := hS.2.1.two
        go_simp
        exact hK.out _ _ _ rfl rfl rfl (Below.refl _ _)
      simp only [List.setIfInBounds_toArray, List.set_cons_zero, List.set_cons_succ]
      refine obs_step (Eq.trans (by simp only [List.getElem?_toArray, List.getElem?_cons_succ, List.getElem?_cons_zero]; exact rfl) rfl) rfl (fun w' hS hV K hK => ?_) ?_
      · have e3 : x 3 = (.int .i64 (xa)) := hV 3 (by decide)
        have e4 : x 4 = (.pointer (some ⟨w.heap.size, 1, none⟩)) := hV 4 (by decide)
        have e5 : x 5 = (.slice (some ⟨g2, o2, none⟩) n c) := hV 5 (by decide)
        have e6 : x 6 = (.int .i64 (j)) := hV 6 (by decide)
        have e7 : x 7 = (.pointer (some ⟨g2, o2 + j, none⟩)) := hV 7 (by decide)
        have e8 : x 8 = (.int .i64 (ya)) := hV 8 (by decide)
        have q2 := hS.1; obtain ⟨q0, q1⟩ := hS.2.1.two
        go_simp
        exact hK.out _ _ _ rfl rfl rfl (Below.refl _ _)
      simp only [List.setIfInBounds_toArray, List.set_cons_zero, List.set_cons_succ]
      refine obs_step (Eq.trans (by simp only [List.getElem?_toArray, List.getElem?_cons_succ, List.getElem?_cons_zero]; exact rfl) rfl) rfl (fun w' hS hV K hK => ?_) ?_
      · have e1 : x 1 = (.agg #[.int .i64 P, .slice (some ⟨g2, o2, none⟩) n c]) := hV 1 (by decide)
        have e2 : x 2 = (.int .i64 (P)) := hV 2 (by decide)
        have e3 : x 3 = (.int .i64 (xa)) := hV 3 (by decide)
        have e4 : x 4 = (.pointer (some ⟨w.heap.size, 1, none⟩)) := hV 4 (by decide)
        have e5 : x 5 = (.slice (some ⟨g2, o2, none⟩) n c) := hV 5 (by decide)
        have e6 : x 6 = (.int .i64 (j)) := hV 6 (by decide)
        have e7 : x 7 = (.pointer (some ⟨g2, o2 + j, none⟩)) := hV 7 (by decide)
        have e8 : x 8 = (.int .i64 (ya)) := hV 8 (by decide)
        have e9 : x 9 = (.int .i64 (xa * ya)) := hV 9 (by decide)
        have q2 := hS.1; obtain ⟨q0, q1⟩ := hS.2.1.two
        go_simp
        refine (num_any P (xa * ya) _ (by omega) hp2 (by omega) (by omega)).mono ?_
        rintro e v1 ⟨rfl, rfl⟩
        exact hK.out _ _ _ rfl rfl rfl (Below.refl _ _)
      simp only [List.setIfInBounds_toArray, List.set_cons_zero, List.set_cons_succ]
      refine obs_step (Eq.trans (by simp only [List.getElem?_toArray, List.getElem?_cons_succ, List.getElem?_cons_zero]; exact rfl) rfl) rfl (fun w' hS hV K hK => ?_) ?_
      · have e1 : x 1 = (.agg #[.int .i64 P, .slice (some ⟨g2, o2, none⟩) n c]) := hV 1 (by decide)
        have e2 : x 2 = (.int .i64 (P)) := hV 2 (by decide)
        have e3 : x 3 = (.int .i64 (xa)) := hV 3 (by decide)
        have e4 : x 4 = (.pointer (some ⟨w.heap.size, 1, none⟩)) := hV 4 (by decide)
        have e5 : x 5 = (.slice (some ⟨g2, o2, none⟩) n c) := hV 5 (by decide)
        have e6 : x 6 = (.int .i64 (j)) := hV 6 (by decide)
        have e7 : x 7 = (.pointer (some ⟨g2, o2 + j, none⟩)) := hV 7 (by decide)
        have e8 : x 8 = (.int .i64 (ya)) := hV 8 (by decide)
        have e9 : x 9 = (.int .i64 (xa * ya)) := hV 9 (by decide)
        have e10 : x 10 = (.int .i64 (xa * ya % P)) := hV 10 (by decide)
        have q2 := hS.1; obtain ⟨q0, q1⟩ := hS.2.1.two
        go_simp
        exact hK.out _ _ _ rfl rfl ⟨_, rfl, Blk.new _ _ _⟩ ((Below.refl _ _).alloc (Nat.le_refl _) _)
      simp only [List.setIfInBounds_toArray, List.set_cons_zero, List.set_cons_succ]
      refine fun w' hS hV => ?_
      have e0 : x 0 = (.slice A' j c') := hV 0 (by decide)
      have e1 : x 1 = (.agg #[.int .i64 P, .slice (some ⟨g2, o2, none⟩) n c]) := hV 1 (by decide)
      have e2 : x 2 = (.int .i64 (P)) := hV 2 (by decide)
      have e3 : x 3 = (.int .i64 (xa)) := hV 3 (by decide)
      have e4 : x 4 = (.pointer (some ⟨w.heap.size, 1, none⟩)) := hV 4 (by decide)
      have e5 : x 5 = (.slice (some ⟨g2, o2, none⟩) n c) := hV 5 (by decide)
      have e6 : x 6 = (.int .i64 (j)) := hV 6 (by decide)
      have e7 : x 7 = (.pointer (some ⟨g2, o2 + j, none⟩)) := hV 7 (by decide)
      have e8 : x 8 = (.int .i64 (ya)) := hV 8 (by decide)
      have e9 : x 9 = (.int .i64 (xa * ya)) := hV 9 (by decide)
      have e10 : x 10 = (.int .i64 (xa * ya % P)) := hV 10 (by decide)
      obtain ⟨b11, e11, h11⟩ := hV 11 (by decide)
      simp only [e0, e1, e2, e3, e4, e5, e6, e7, e8, e9, e10, e11]
      clear e0 e1 e2 e3 e4 e5 e6 e7 e8 e9 e10 e11
      have s1 := HM.out.below hS.2.2
      have k3 := hS.2.1
      refine any_plain (j := 12) (by kernel_rfl) (Eq.trans (by simp only [List.getElem?_toArray, List.getElem?_cons_succ, List.getElem?_cons_zero]; exact rfl) rfl) rfl (fun K hK => ?_)
      refine wp_app1 w w' 24 2 _ _ Tryz.underlying24 info_i rfl (by omega) _ _ rfl A' j c' _ _ s1 (by omega) rfl _ h11 (by rfl) (by rfl) ?_
      intro A2 c2 w2 hM2 hgr
      refine hK.out _ _ ?_
      simp only [Act.put, List.setIfInBounds_toArray, List.set_cons_zero, List.set_cons_succ]
      refine any_one (j := 13) (by kernel_rfl) (Eq.trans (by simp only [List.getElem?_toArray, List.getElem?_cons_succ, List.getElem?_cons_zero]; exact rfl) rfl) (fun K hK => ?_)
      go_simp
      refine hK.out _ _ (wpAny_done (by kernel_rfl) ?_ _)
      have k4 := k3.grown hgr (s1.2.ne_blk k3 (by decide))
      clear W1 s1 k3 hgr hS
      go_wp2
      go_roundw
      case rel => exact ⟨j + 1, A2, c2, by omega, by go_num, rfl, by rw [HV.out]; simpa [MkI, ints] using hM2, k4⟩
      case measure => simp [intOf]; omega
    · obtain rfl : j = n := by omega
      go_wp2
      go_ret
      exact ⟨_, _, rfl, by rw [HL.out]; exact hM⟩
set_option maxHeartbeats 1600000 in
set_option maxRecDepth 8000 in
theorem pair_any (P : Int) (A : Option Addr) (n c : Nat) (sq : List Int) (X : Option Addr) (cx : Nat) (v : List Int) (Y : Option Addr) (cy : Nat) (u : List Int) (w : World) (hp : 2 ≤ P) (hp2 : P ≤ 13) (hn : n ≤ 6) (ha : Rd w A n (ints sq)) (hs : NumsL P sq) (hx : Rd w X n (ints v)) (hv : NumsL P v) (hy : Rd w Y n (ints u)) (hu : NumsL P u) :
    Calls Tryz.prog 209 #[.agg #[.int .i64 P, .slice A n c], .slice X n cx, .slice Y n cy] w fun e w' => e = .returned (.int .i64 (pairL P sq v u)) ∧ Below w.heap.size w w' := by
  have HPL : Hid (pairL P sq v u = dotL P (weiL P sq v) u) := Lib.hid rfl
  have hB0 : Below w.heap.size w (w.alloc (.cells #[.int .i64 P, .slice A n c] 26)) := (Below.refl _ _).alloc (Nat.le_refl _) _
  have k0 : Blk (w.alloc (.cells #[.int .i64 P, .slice A n c] 26)) w.heap.size 26 #[.int .i64 P, .slice A n c] := Blk.new _ _ _
  go_enter Tryz.func209, Tryz.ntmps209
  go_wp2
  refine wp_obs 8 [[], [0], [], [], [2, 3], [], [0, 1, 2, 3, 4, 5], [0, 1, 2, 3, 4, 5, 6]] [VIs (.agg #[.int .i64 P, .slice A n c]), VIs (.int .i64 (P)), VIs (.agg #[.int .i64 P, .slice A n c]), VIs (.slice X n cx), VSl w n (weiL P sq v), VIs (.slice Y n cy), VIs (.int .i64 (pairL P sq v u)), VIs (.int .i64 (pairL P sq v u))] (fun w' => Blk w' w.heap.size 26 #[.int .i64 P, .slice A n c] ∧ Below w.heap.size w w') (by kernel_rfl) (by kernel_rfl) (fun _ _ h hb => ⟨h.1.below hb h.1.lt, h.2.trans (hb.mono h.2.size)⟩) (⟨k0.drew, hB0.drew⟩) (fun x => ?_)
  refine obs_step (Eq.trans (by simp only [List.getElem?_toArray, List.getElem?_cons_zero]; exact rfl) rfl) rfl (fun w' hS hV K hK => ?_) ?_
  · obtain ⟨q0, q1⟩ := hS.1.two
    go_simp
    exact hK.out _ _ _ rfl rfl rfl (Below.refl _ _)
  simp only [List.setIfInBounds_toArray, List.set_cons_zero, List.set_cons_succ]
  refine obs_step (Eq.trans (by simp only [List.getElem?_toArray, List.getElem?_cons_succ, List.getElem?_cons_zero]; exact rfl) rfl) rfl (fun w' hS hV K hK => ?_) ?_
  · have e0 : x 0 = (.agg #[.int .i64 P, .slice A n c]) := hV 0 (by decide)
    obtain ⟨q0, q1⟩ := hS.1.two
    go_simp
    refine (field_any _ _ _ _ _).mono ?_
    rintro e v1 ⟨rfl, hb⟩
    exact hK.out _ _ _ rfl rfl rfl hb
  simp only [List.setIfInBounds_toArray, List.set_cons_zero, List.set_cons_succ]
  refine obs_step (Eq.trans (by simp only [List.getElem?_toArray, List.getElem?_cons_succ, List.getElem?_cons_zero]; exact rfl) rfl) rfl (fun w' hS hV K hK => ?_) ?_
  · obtain ⟨q0, q1⟩ := hS.1.two
    go_simp
    exact hK.out _ _ _ rfl rfl rfl (Below.refl _ _)
  simp only [List.setIfInBounds_toArray, List.set_cons_zero, List.set_cons_succ]
  refine obs_step (Eq.trans (by simp only [List.getElem?_toArray, List.getElem?_cons_succ, List.getElem?_cons_zero]; exact rfl) rfl) rfl (fun w' hS hV K hK => ?_) ?_
  · obtain ⟨q0, q1⟩ := hS.1.two
    go_simp
    exact hK.out _ _ _ rfl rfl rfl (Below.refl _ _)
  simp only [List.setIfInBounds_toArray, List.set_cons_zero, List.set_cons_succ]
  refine obs_step (Eq.trans (by simp only [List.getElem?_toArray, List.getElem?_cons_succ, List.getElem?_cons_zero]; exact rfl) rfl) rfl (fun w' hS hV K hK => ?_) ?_
  · have e2 : x 2 = (.agg #[.int .i64 P, .slice A n c]) := hV 2 (by decide)
    have e3 : x 3 = (.slice X n cx) := hV 3 (by decide)
    obtain ⟨q0, q1⟩ := hS.1.two
    go_simp
    refine (weighted_any P A n c sq X cx v _ hp hp2 hn (ha.below hS.2) hs (hx.below hS.2) hv).mono ?_
    rintro e v1 ⟨A2, c2, rfl, hM⟩
    exact hK.out _ _ _ rfl rfl ⟨_, _, rfl, hM.after hS.2⟩ hM.b
  simp only [List.setIfInBounds_toArray, List.set_cons_zero, List.set_cons_succ]
  refine obs_step (Eq.trans (by simp only [List.getElem?_toArray, List.getElem?_cons_succ, List.getElem?_cons_zero]; exact rfl) rfl) rfl (fun w' hS hV K hK => ?_) ?_
  · obtain ⟨q0, q1⟩ := hS.1.two
    go_simp
    exact hK.out _ _ _ rfl rfl rfl (Below.refl _ _)
  simp only [List.setIfInBounds_toArray, List.set_cons_zero, List.set_cons_succ]
  refine obs_step (Eq.trans (by simp only [List.getElem?_toArray, List.getElem?_cons_succ, List.getElem?_cons_zero]; exact rfl) rfl) rfl (fun w' hS hV K hK => ?_) ?_
  · have e0 : x 0 = (.agg #[.int .i64 P, .slice A n c]) := hV 0 (by decide)
    have e1 : x 1 = (.int .i64 (P)) := hV 1 (by decide)
    have e2 : x 2 = (.agg #[.int .i64 P, .slice A n c]) := hV 2 (by decide)
    have e3 : x 3 = (.slice X n cx) := hV 3 (by decide)
    obtain ⟨A4, c4, e4, h4⟩ := hV 4 (by decide)
    have e5 : x 5 = (.slice Y n cy) := hV 5 (by decide)
    obtain ⟨q0, q1⟩ := hS.1.two
    go_simp
    refine (dot_any P _ n _ _ n _ (weiL P sq v) u _ hp hp2 (by omega) (Nat.le_refl _) h4.rd (weiL_nums (by omega) _ _) (hy.below hS.2) hu).mono ?_
    rw [← HPL.out]
    rintro e v1 ⟨rfl, rfl⟩
    exact hK.out _ _ _ rfl rfl rfl (Below.refl _ _)
  simp only [List.setIfInBounds_toArray, List.set_cons_zero, List.set_cons_succ]
  refine obs_step (Eq.trans (by simp only [List.getElem?_toArray, List.getElem?_cons_succ, List.getElem?_cons_zero]; exact rfl) rfl) rfl (fun w' hS hV K hK => ?_) ?_
  · have e0 : x 0 = (.agg #[.int .i64 P, .slice A n c]) := hV 0 (by decide)
    have e1 : x 1 = (.int .i64 (P)) := hV 1 (by decide)
    have e2 : x 2 = (.agg #[.int .i64 P, .slice A n c]) := hV 2 (by decide)
    have e3 : x 3 = (.slice X n cx) := hV 3 (by decide)
    obtain ⟨A4, c4, e4, h4⟩ := hV 4 (by decide)
    have e5 : x 5 = (.slice Y n cy) := hV 5 (by decide)
    have e6 : x 6 = (.int .i64 (pairL P sq v u)) := hV 6 (by decide)
    obtain ⟨q0, q1⟩ := hS.1.two
    go_simp
    exact hK.out _ _ _ rfl rfl rfl (Below.refl _ _)
  simp only [List.setIfInBounds_toArray, List.set_cons_zero, List.set_cons_succ]
  refine fun w' hS hV => ?_
  have e0 : x 0 = (.agg #[.int .i64 P, .slice A n c]) := hV 0 (by decide)
  have e1 : x 1 = (.int .i64 (P)) := hV 1 (by decide)
  have e2 : x 2 = (.agg #[.int .i64 P, .slice A n c]) := hV 2 (by decide)
  have e3 : x 3 = (.slice X n cx) := hV 3 (by decide)
  obtain ⟨A4, c4, e4, h4⟩ := hV 4 (by decide)
  have e5 : x 5 = (.slice Y n cy) := hV 5 (by decide)
  have e6 : x 6 = (.int .i64 (pairL P sq v u)) := hV 6 (by decide)
  have e7 : x 7 = (.int .i64 (pairL P sq v u)) := hV 7 (by decide)
  simp only [e0, e1, e2, e3, e4, e5, e6, e7]
  clear e0 e1 e2 e3 e4 e5 e6 e7
  refine wpAny_done (by kernel_rfl) ?_ _
  go_wp2
  go_ret
  exact ⟨rfl, hS.2⟩
set_option maxHeartbeats 3200000 in
set_option maxRecDepth 8000 in
theorem l03Pair_any (P : Int) (A : Option Addr) (n c : Nat) (sq : List Int) (X : Option Addr) (cx : Nat) (v : List Int) (Y : Option Addr) (cy : Nat) (u : List Int) (w : World) (hp : 2 ≤ P) (hp2 : P ≤ 13) (hn : n ≤ 6) (ha : Rd w A n (ints sq)) (hs : NumsL P sq) (hx : Rd w X n (ints v)) (hv : NumsL P v) (hy : Rd w Y n (ints u)) (hu : NumsL P u) :
    Calls Tryz.prog 157 #[.agg #[.int .i64 P, .slice A n c], .slice X n cx, .slice Y n cy] w fun e w' => e = .returned (.int .i64 (pairL P sq v u)) ∧ Below w.heap.size w w' := by
  have HPL : Hid (pairL P sq v u = (sumTo n fun i => v.getD i 0 * u.getD i 0 % P * sq.getD i 0) % P) := Lib.hid (pairL_sum hx.lenI)
  have hB0 : Below w.heap.size w (w.alloc (.cells #[.int .i64 P, .slice A n c] 26)) := (Below.refl _ _).alloc (Nat.le_refl _) _
  have k0 : Blk (w.alloc (.cells #[.int .i64 P, .slice A n c] 26)) w.heap.size 26 #[.int .i64 P, .slice A n c] := Blk.new _ _ _
  go_enter Tryz.func157, Tryz.ntmps157
  go_wp2
  go_loopw [7, 8] (fun s i wr => ∃ j : Nat, j ≤ n ∧ i = .int .i64 j ∧ s = .int .i64 ((sumTo j fun i => v.getD i 0 * u.getD i 0 % P * sq.getD i 0) % P) ∧ Below w.heap.size w wr ∧ Blk wr w.heap.size 26 #[.int .i64 P, .slice A n c]) (fun _ i _ => n - (intOf i).toNat)
  case atStart => exact ⟨0, by omega, rfl, by simp [sumTo], hB0, k0⟩
  case round =>
    obtain ⟨j, hj, rfl, rfl, hB1, k1⟩ := hrel
    clear hB0 k0
    have hsb := emod_small (sumTo j fun i => v.getD i 0 * u.getD i 0 % P * sq.getD i 0) P (by omega)
    have hst := sumTo_step P j fun i => v.getD i 0 * u.getD i 0 % P * sq.getD i 0
    have HEN : Hid (j = n → pairL P sq v u = (sumTo j fun i => v.getD i 0 * u.getD i 0 % P * sq.getD i 0) % P) := Lib.hid (fun h => by rw [HPL.out, h])
    obtain ⟨s, hse⟩ : ∃ s, s = (sumTo j fun i => v.getD i 0 * u.getD i 0 % P * sq.getD i 0) % P := ⟨_, rfl⟩
    rw [← hse] at hsb hst HEN ⊢
    clear hse
    by_cases hlt : j < n
    · obtain ⟨g, o, rfl, hxj, hcx⟩ := (hx.below hB1).int hlt
      obtain ⟨g2, o2, rfl, hyj, hcy⟩ := (hy.below hB1).int hlt
      obtain ⟨g3, o3, rfl, hzj, hcz⟩ := (ha.below hB1).int hlt
      obtain ⟨x1, x2⟩ := hv _ (List.getElem_mem hxj)
      obtain ⟨y1, y2⟩ := hu _ (List.getElem_mem hyj)
      obtain ⟨z1, z2⟩ := hs _ (List.getElem_mem hzj)
      have HST : Hid ((sumTo (j + 1) fun i => v.getD i 0 * u.getD i 0 % P * sq.getD i 0) % P = (s + v[j] * u[j] % P * sq[j]) % P) := Lib.hid (by rw [← hst, getD_of_lt 0 hxj, getD_of_lt 0 hyj, getD_of_lt 0 hzj])
      clear hst
      obtain ⟨xa, hxe⟩ : ∃ xa, xa = v[j] := ⟨_, rfl⟩
      obtain ⟨ya, hye⟩ : ∃ ya, ya = u[j] := ⟨_, rfl⟩
      obtain ⟨za, hze⟩ : ∃ za, za = sq[j] := ⟨_, rfl⟩
      rw [← hxe] at hcx x1 x2 HST
      rw [← hye] at hcy y1 y2 HST
      rw [← hze] at hcz z1 z2 HST
      obtain ⟨m1, m2⟩ := mul_small x1 (show xa ≤ 13 by omega) y1 (show ya ≤ 13 by omega)
      obtain ⟨r1, r2⟩ := emod_small (xa * ya) P (by omega)
      obtain ⟨m3, m4⟩ := mul_small r1 (show xa * ya % P ≤ 13 by omega) z1 (show za ≤ 13 by omega)
      have W1 := i64_fit (xa * ya) (by omega) (by omega)
      have W2 := i64_fit (xa * ya % P * za) (by omega) (by omega)
      have W3 := i64_fit (s + xa * ya % P * za) (by omega) (by omega)
      have T1 := Int.tmod_eq_emod_of_nonneg (b := P) m1
      have T2 := Int.tmod_eq_emod_of_nonneg (a := s + xa * ya % P * za) (b := P) (by omega)
      have hP0 : (P == 0) = false := by simp; omega
      have hP1 : (P == -1) = false := by simp; omega
      have hP2 : ¬ P = 0 := by omega
      have i1 : (0 : Int) ≤ (j : Int) := by omega
      have i2 : (j : Int) < (n : Int) := by omega
      obtain ⟨q0, q1⟩ := k1.two
      clear hxe hye hze hxj hyj hzj
      go_wp2
      refine wp_obs 23 [[], [], [], [1, 2], [1, 2, 3], [], [], [5, 6], [5, 6, 7], [1, 2, 3, 4, 5, 6, 7, 8], [], [10], [1, 2, 3, 4, 5, 6, 7, 8, 9, 10, 11], [], [13], [], [13, 14, 15], [13, 14, 15, 16], [1, 2, 3, 4, 5, 6, 7, 8, 9, 10, 11, 12, 13, 14, 15, 16, 17], [0, 1, 2, 3, 4, 5, 6, 7, 8, 9, 10, 11, 12, 13, 14, 15, 16, 17, 18], [], [20], [0, 1, 2, 3, 4, 5, 6, 7, 8, 9, 10, 11, 12, 13, 14, 15, 16, 17, 18, 19, 20, 21], [0, 1, 2, 3, 4, 5, 6, 7, 8, 9, 10, 11, 12, 13, 14, 15, 16, 17, 18, 19, 20, 21, 22]] [VIs (.int .i64 (s)), VIs (.slice (some ⟨g, o, none⟩) n cx), VIs (.int .i64 (j)), VIs (.pointer (some ⟨g, o + j, none⟩)), VIs (.int .i64 (xa)), VIs (.slice (some ⟨g2, o2, none⟩) n cy), VIs (.int .i64 (j)), VIs (.pointer (some ⟨g2, o2 + j, none⟩)), VIs (.int .i64 (ya)), VIs (.int .i64 (xa * ya)), VIs (.pointer (some ⟨w.heap.size, 0, none⟩)), VIs (.int .i64 (P)), VIs (.int .i64 (xa * ya % P)), VIs (.pointer (some ⟨w.heap.size, 1, none⟩)), VIs (.slice (some ⟨g3, o3, none⟩) n c), VIs (.int .i64 (j)), VIs (.pointer (some ⟨g3, o3 + j, none⟩)), VIs (.int .i64 (za)), VIs (.int .i64 (xa * ya % P * za)), VIs (.int .i64 (s + xa * ya % P * za)), VIs (.pointer (some ⟨w.heap.size, 0, none⟩)), VIs (.int .i64 (P)), VIs (.int .i64 ((s + xa * ya % P * za) % P))] (fun w' => w'.cell? ⟨g, o + j, none⟩ = some (.int .i64 xa) ∧ w'.cell? ⟨g2, o2 + j, none⟩ = some (.int .i64 ya) ∧ w'.cell? ⟨g3, o3 + j, none⟩ = some (.int .i64 za) ∧ Blk w' w.heap.size 26 #[.int .i64 P, .slice (some ⟨g3, o3, none⟩) n c] ∧ Below wr.heap.size wr w') (by kernel_rfl) (by kernel_rfl) (fun _ _ h hb => ⟨(hb.cell (World.block_lt_of_cell? _ _ h.1)).trans h.1, (hb.cell (World.block_lt_of_cell? _ _ h.2.1)).trans h.2.1, (hb.cell (World.block_lt_of_cell? _ _ h.2.2.1)).trans h.2.2.1, h.2.2.2.1.below hb h.2.2.2.1.lt, h.2.2.2.2.trans (hb.mono h.2.2.2.2.size)⟩) (⟨hcx, hcy, hcz, k1.drew, (Below.refl _ _).drew⟩) (fun x => ?_)
      refine obs_step (Eq.trans (by simp only [List.getElem?_toArray, List.getElem?_cons_zero]; exact rfl) rfl) rfl (fun w' hS hV K hK => ?_) ?_
      · have q2 := hS.1; have q3 := hS.2.1; have q4 := hS.2.2.1; obtain ⟨q0, q1⟩ := hS.2.2.2.1.two
        go_simp
        exact hK.out _ _ _ rfl rfl rfl (Below.refl _ _)
      simp only [List.setIfInBounds_toArray, List.set_cons_zero, List.set_cons_succ]
      refine obs_step (Eq.trans (by simp only [List.getElem?_toArray, List.getElem?_cons_succ, List.getElem?_cons_zero]; exact rfl) rfl) rfl (fun w' hS hV K hK => ?_) ?_
      · have q2 := hS.1; have q3 := hS.2.1; have q4 := hS.2.2.1; obtain ⟨q0, q1⟩ := hS.2.2.2.1.two
        go_simp
        exact hK.out _ _ _ rfl rfl rfl (Below.refl _ _)
      simp only [List.setIfInBounds_toArray, List.set_cons_zero, List.set_cons_succ]
      refine obs_step (Eq.trans (by simp only [List.getElem?_toArray, List.getElem?_cons_succ, List.getElem?_cons_zero]; exact rfl) rfl) rfl (fun w' hS hV K hK => ?_) ?_
      · have q2 := hS.1; have q3 := hS.2.1; have q4 := hS.2.2.1; obtain ⟨q0, q1⟩ := hS.2.2.2.1.two
        go_simp
        exact hK.out _ _ _ rfl rfl rfl (Below.refl _ _)
      simp only [List.setIfInBounds_toArray, List.set_cons_zero, List.set_cons_succ]
      refine obs_step (Eq.trans (by simp only [List.getElem?_toArray, List.getElem?_cons_succ, List.getElem?_cons_zero]; exact rfl) rfl) rfl (fun w' hS hV K hK => ?_) ?_
      · have e1 : x 1 = (.slice (some ⟨g, o, none⟩) n cx) := hV 1 (by decide)
        have e2 : x 2 = (.int .i64 (j)) := hV 2 (by decide)
        have q2 := hS.1; have q3 := hS.2.1; have q4 := hS.2.2.1; obtain ⟨q0, q1⟩ := hS.2.2.2.1.two
        go_simp
        exact hK.out _ _ _ rfl rfl rfl (Below.refl _ _)
      simp only [List.setIfInBounds_toArray, List.set_cons_zero, List.set_cons_succ]
      refine obs_step (Eq.trans (by simp only [List.getElem?_toArray, List.getElem?_cons_succ, List.getElem?_cons_zero]; exact rfl) rfl) rfl (fun w' hS hV K hK => ?_) ?_
      · have e1 : x 1 = (.slice (some ⟨g, o, none⟩) n cx) := hV 1 (by decide)
        have e2 : x 2 = (.int .i64 (j)) := hV 2 (by decide)
        have e3 : x 3 = (.pointer (some ⟨g, o + j, none⟩)) := hV 3 (by decide)
        have q2 := hS.1; have q3 := hS.2.1; have q4 := hS.2.2.1; obtain ⟨q0, q1⟩ := hS.2.2.2.1.two
        go_simp
        exact hK.out _ _ _ rfl rfl rfl (Below.refl _ _)
      simp only [List.setIfInBounds_toArray, List.set_cons_zero, List.set_cons_succ]
      refine obs_step (Eq.trans (by simp only [List.getElem?_toArray, List.getElem?_cons_succ, List.getElem?_cons_zero]; exact rfl) rfl) rfl (fun w' hS hV K hK => ?_) ?_
      · have q2 := hS.1; have q3 := hS.2.1; have q4 := hS.2.2.1; obtain ⟨q0, q1⟩ := hS.2.2.2.1.two
        go_simp
        exact hK.out _ _ _ rfl rfl rfl (Below.refl _ _)
      simp only [List.setIfInBounds_toArray, List.set_cons_zero, List.set_cons_succ]
      refine obs_step (Eq.trans (by simp only [List.getElem?_toArray, List.getElem?_cons_succ, List.getElem?_cons_zero]; exact rfl) rfl) rfl (fun w' hS hV K hK => ?_) ?_
      · have q2 := hS.1; have q3 := hS.2.1; have q4 := hS.2.2.1; obtain ⟨q0, q1⟩ := hS.2.2.2.1.two
        go_simp
        exact hK.out _ _ _ rfl rfl rfl (Below.refl _ _)
      simp only [List.setIfInBounds_toArray, List.set_cons_zero, List.set_cons_succ]
      refine obs_step (Eq.trans (by simp only [List.getElem?_toArray, List.getElem?_cons_succ, List.getElem?_cons_zero]; exact rfl) rfl) rfl (fun w' hS hV K hK => ?_) ?_
      · have e5 : x 5 = (.slice (some ⟨g2, o2, none⟩) n cy) := hV 5 (by decide)
        have e6 : x 6 = (.int .i64 (j)) := hV 6 (by decide)
        have q2 := hS.1; have q3 := hS.2.1; have q4 := hS.2.2.1; obtain ⟨q0, q1⟩ := hS.2.2.2.1.two
        go_simp
        exact hK.out _ _ _ rfl rfl rfl (Below.refl _ _)
      simp only [List.setIfInBounds_toArray, List.set_cons_zero, List.set_cons_succ]
      refine obs_step (Eq.trans (by simp only [List.getElem?_toArray, List.getElem?_cons_succ, List.getElem?_cons_zero]; exact rfl) rfl) rfl (fun w' hS hV K hK => ?_) ?_
      · have e5 : x 5 = (.slice (some ⟨g2, o2, none⟩) n cy) := hV 5 (by decide)
        have e6 : x 6 = (.int .i64 (j)) := hV 6 (by decide)
        have e7 : x 7 = (.pointer (some ⟨g2, o2 + j, none⟩)) := hV 7 (by decide)
        have q2 := hS.1; have q3 := hS.2.1; have q4 := hS.2.2.1; obtain ⟨q0, q1⟩ := hS.2.2.2.1.two
        go_simp
        exact hK.out _ _ _ rfl rfl rfl (Below.refl _ _)
      simp only [List.setIfInBounds_toArray, List.set_cons_zero, List.set_cons_succ]
      refine obs_step (Eq.trans (by simp only [List.getElem?_toArray, List.getElem?_cons_succ, List.getElem?_cons_zero]; exact rfl) rfl) rfl (fun w' hS hV K hK => ?_) ?_
      · have e1 : x 1 = (.slice (some ⟨g, o, none⟩) n cx) := hV 1 (by decide)
        have e2 : x 2 = (.int .i64 (j)) := hV 2 (by decide)
        have e3 : x 3 = (.pointer (some ⟨g, o + j, none⟩)) := hV 3 (by decide)
        have e4 : x 4 = (.int .i64 (xa)) := hV 4 (by decide)
        have e5 : x 5 = (.slice (some ⟨g2, o2, none⟩) n cy) := hV 5 (by decide)
        have e6 : x 6 = (.int .i64 (j)) := hV 6 (by decide)
        have e7 : x 7 = (.pointer (some ⟨g2, o2 + j, none⟩)) := hV 7 (by decide)
        have e8 : x 8 = (.int .i64 (ya)) := hV 8 (by decide)
        have q2 := hS.1; have q3 := hS.2.1; have q4 := hS.2.2.1; obtain ⟨q0, q1⟩ := hS.2.2.2.1.two
        go_simp
        exact hK.out _ _ _ rfl rfl rfl (Below.refl _ _)
      simp only [List.setIfInBounds_toArray, List.set_cons_zero, List.set_cons_succ]
      refine obs_step (Eq.trans (by simp only [List.getElem?_toArray, List.getElem?_cons_succ, List.getElem?_cons_zero]; exact rfl) rfl) rfl (fun w' hS hV K hK => ?_) ?_
      · have q2 := hS.1; have q3 := hS.2.1; have q4 := hS.2.2.1; obtain ⟨q0, q1⟩ := hS.2.2.2.1.two
        go_simp
        exact hK.out _ _ _ rfl rfl rfl (Below.refl _ _)
      simp only [List.setIfInBounds_toArray, List.set_cons_zero, List.set_cons_succ]
      refine obs_step (Eq.trans (by simp only [List.getElem?_toArray, List.getElem?_cons_succ, List.getElem?_cons_zero]; exact rfl) rfl) rfl (fun w' hS hV K hK => ?_) ?_
      · have e10 : x 10 = (.pointer (some ⟨w.heap.size, 0, none⟩)) := hV 10 (by decide)
        have q2 := hS.1; have q3 := hS.2.1; have q4 := hS.2.2.1; obtain ⟨q0, q1⟩ := hS.2.2.2.1.two
        go_simp
        exact hK.out _ _ _ rfl rfl rfl (Below.refl _ _)
      simp only [List.setIfInBounds_toArray, List.set_cons_zero, List.set_cons_succ]
      refine obs_step (Eq.trans (by simp only [List.getElem?_toArray, List.getElem?_cons_succ, List.getElem?_cons_zero]; exact rfl) rfl) rfl (fun w' hS hV K hK => ?_) ?_
      · have e1 : x 1 = (.slice (some ⟨g, o, none⟩) n cx) := hV 1 (by decide)
        have e2 : x 2 = (.int .i64 (j)) := hV 2 (by decide)
        have e3 : x 3 = (.pointer (some ⟨g, o + j, none⟩)) := hV 3 (by decide)
        have e4 : x 4 = (.int .i64 (xa)) := hV 4 (by decide)
        have e5 : x 5 = (.slice (some ⟨g2, o2, none⟩) n cy) := hV 5 (by decide)
        have e6 : x 6 = (.int .i64 (j)) := hV 6 (by decide)
        have e7 : x 7 = (.pointer (some ⟨g2, o2 + j, none⟩)) := hV 7 (by decide)
        have e8 : x 8 = (.int .i64 (ya)) := hV 8 (by decide)
        have e9 : x 9 = (.int .i64 (xa * ya)) := hV 9 (by decide)
        have e10 : x 10 = (.pointer (some ⟨w.heap.size, 0, none⟩)) := hV 10 (by decide)
        have e11 : x 11 = (.int .i64 (P)) := hV 11 (by decide)
        have q2 := hS.1; have q3 := hS.2.1; have q4 := hS.2.2.1; obtain ⟨q0, q1⟩ := hS.2.2.2.1.two
        go_simp
        exact hK.out _ _ _ rfl rfl rfl (Below.refl _ _)
      simp only [List.setIfInBounds_toArray, List.set_cons_zero, List.set_cons_succ]
      refine obs_step (Eq.trans (by simp only [List.getElem?_toArray, List.getElem?_cons_succ, List.getElem?_cons_zero]; exact rfl) rfl) rfl (fun w' hS hV K hK => ?_) ?_
      · have q2 := hS.1; have q3 := hS.2.1; have q4 := hS.2.2.1; obtain ⟨q0, q1⟩ := hS.2.2.2.1.two
        go_simp
        exact hK.out _ _ _ rfl rfl rfl (Below.refl _ _)
      simp only [List.setIfInBounds_toArray, List.set_cons_zero, List.set_cons_succ]
      refine obs_step (Eq.trans (by simp only [List.getElem?_toArray, List.getElem?_cons_succ, List.getElem?_cons_zero]; exact rfl) rfl) rfl (fun w' hS hV K hK => ?_) ?_
      · have e13 : x 13 = (.pointer (some ⟨w.heap.size, 1, none⟩)) := hV 13 (by decide)
        have q2 := hS.1; have q3 := hS.2.1; have q4 := hS.2.2.1; obtain ⟨q0, q1⟩ := hS.2.2.2.1.two
        go_simp
        exact hK.out _ _ _ rfl rfl rfl (Below.refl _ _)
      simp only [List.setIfInBounds_toArray, List.set_cons_zero, List.set_cons_succ]
      refine obs_step (Eq.trans (by simp only [List.getElem?_toArray, List.getElem?_cons_succ, List.getElem?_cons_zero]; exact rfl) rfl) rfl (fun w' hS hV K hK => ?_) ?_
      · have q2 := hS.1; have q3 := hS.2.1; have q4 := hS.2.2.1; obtain ⟨q0, q1⟩ := hS.2.2.2.1.two
        go_simp
        exact hK.out _ _ _ rfl rfl rfl (Below.refl _ _)
      simp only [List.setIfInBounds_toArray, List.set_cons_zero, List.set_cons_succ]
      refine obs_step (Eq.trans (by simp only [List.getElem?_toArray, List.getElem?_cons_succ, List.getElem?_cons_zero]; exact rfl) rfl) rfl (fun w' hS hV K hK => ?_) ?_
      · have e13 : x 13 = (.pointer (some ⟨w.heap.size, 1, none⟩)) := hV 13 (by decide)
        have e14 : x 14 = (.slice (some ⟨g3, o3, none⟩) n c) := hV 14 (by decide)
        have e15 : x 15 = (.int .i64 (j)) := hV 15 (by decide)
        have q2 := hS.1; have q3 := hS.2.1; have q4 := hS.2.2.1; obtain ⟨q0, q1⟩ := hS.2.2.2.1.two
        go_simp
        exact hK.out _ _ _ rfl rfl rfl (Below.refl _ _)
      simp only [List.setIfInBounds_toArray, List.set_cons_zero, List.set_cons_succ]
      refine obs_step (Eq.trans (by simp only [List.getElem?_toArray, List.getElem?_cons_succ, List.getElem?_cons_zero]; exact rfl) rfl) rfl (fun w' hS hV K hK => ?_) ?_
      · have e13 : x 13 = (.pointer (some ⟨w.heap.size, 1, none⟩)) := hV 13 (by decide)
        have e14 : x 14 = (.slice (some ⟨g3, o3, none⟩) n c) := hV 14 (by decide)
        have e15 : x 15 = (.int .i64 (j)) := hV 15 (by decide)
        have e16 : x 16 = (.pointer (some ⟨g3, o3 + j, none⟩)) := hV 16 (by decide)
        have q2 := hS.1; have q3 := hS.2.1; have q4 := hS.2.2.1; obtain ⟨q0, q1⟩ := hS.2.2.2.1.two
        go_simp
        exact hK.out _ _ _ rfl rfl rfl (Below.refl _ _)
      simp only [List.setIfInBounds_toArray, List.set_cons_zero, List.set_cons_succ]
      refine obs_step (Eq.trans (by simp only [List.getElem?_toArray, List.getElem?_cons_succ, List.getElem?_cons_zero]; exact rfl) rfl) rfl (fun w' hS hV K hK => ?_) ?_
      · have e1 : x 1 = (.slice (some ⟨g, o, none⟩) n cx) := hV 1 (by decide)
        have e2 : x 2 = (.int .i64 (j)) := hV 2 (by decide)
        have e3 : x 3 = (.pointer (some ⟨g, o + j, none⟩)) := hV 3 (by decide)
        have e4 : x 4 = (.int .i64 (xa)) := hV 4 (by decide)
        have e5 : x 5 = (.slice (some ⟨g2, o2, none⟩) n cy) := hV 5 (by decide)
        have e6 : x 6 = (.int .i64 (j)) := hV 6 (by decide)
        have e7 : x 7 = (.pointer (some ⟨g2, o2 + j, none⟩)) := hV 7 (by decide)
        have e8 : x 8 = (.int .i64 (ya)) := hV 8 (by decide)
        have e9 : x 9 = (.int .i64 (xa * ya)) := hV 9 (by decide)
        have e10 : x 10 = (.pointer (some ⟨w.heap.size, 0, none⟩)) := hV 10 (by decide)
        have e11 : x 11 = (.int .i64 (P)) := hV 11 (by decide)
        have e12 : x 12 = (.int .i64 (xa * ya % P)) := hV 12 (by decide)
        have e13 : x 13 = (.pointer (some ⟨w.heap.size, 1, none⟩)) := hV 13 (by decide)
        have e14 : x 14 = (.slice (some ⟨g3, o3, none⟩) n c) := hV 14 (by decide)
        have e15 : x 15 = (.int .i64 (j)) := hV 15 (by decide)
        have e16 : x 16 = (.pointer (some ⟨g3, o3 + j, none⟩)) := hV 16 (by decide)
        have e17 : x 17 = (.int .i64 (za)) := hV 17 (by decide)
        have q2 := hS.1; have q3 := hS.2.1; have q4 := hS.2.2.1; obtain ⟨q0, q1⟩ := hS.2.2.2.1.two
        go_simp
        exact hK.out _ _ _ rfl rfl rfl (Below.refl _ _)
      simp only [List.setIfInBounds_toArray, List.set_cons_zero, List.set_cons_succ]
      refine obs_step (Eq.trans (by simp only [List.getElem?_toArray, List.getElem?_cons_succ, List.getElem?_cons_zero]; exact rfl) rfl) rfl (fun w' hS hV K hK => ?_) ?_
      · have e0 : x 0 = (.int .i64 (s)) := hV 0 (by decide)
        have e1 : x 1 = (.slice (some ⟨g, o, none⟩) n cx) := hV 1 (by decide)
        have e2 : x 2 = (.int .i64 (j)) := hV 2 (by decide)
        have e3 : x 3 = (.pointer (some ⟨g, o + j, none⟩)) := hV 3 (by decide)
        have e4 : x 4 = (.int .i64 (xa)) := hV 4 (by decide)
        have e5 : x 5 = (.slice (some ⟨g2, o2, none⟩) n cy) := hV 5 (by decide)
        have e6 : x 6 = (.int .i64 (j)) := hV 6 (by decide)
        have e7 : x 7 = (.pointer (some ⟨g2, o2 + j, none⟩)) := hV 7 (by decide)
        have e8 : x 8 = (.int .i64 (ya)) := hV 8 (by decide)
        have e9 : x 9 = (.int .i64 (xa * ya)) := hV 9 (by decide)
        have e10 : x 10 = (.pointer (some ⟨w.heap.size, 0, none⟩)) := hV 10 (by decide)
        have e11 : x 11 = (.int .i64 (P)) := hV 11 (by decide)
        have e12 : x 12 = (.int .i64 (xa * ya % P)) := hV 12 (by decide)
        have e13 : x 13 = (.pointer (some ⟨w.heap.size, 1, none⟩)) := hV 13 (by decide)
        have e14 : x 14 = (.slice (some ⟨g3, o3, none⟩) n c) := hV 14 (by decide)
        have e15 : x 15 = (.int .i64 (j)) := hV 15 (by decide)
        have e16 : x 16 = (.pointer (some ⟨g3, o3 + j, none⟩)) := hV 16 (by decide)
        have e17 : x 17 = (.int .i64 (za)) := hV 17 (by decide)
        have e18 : x 18 = (.int .i64 (xa * ya % P * za)) := hV 18 (by decide)
        have q2 := hS.1; have q3 := hS.2.1; have q4 := hS.2.2.1; obtain ⟨q0, q1⟩ := hS.2.2.2.1.two
        go_simp
        exact hK.out _ _ _ rfl rfl rfl (Below.refl _ _)
      simp only [List.setIfInBounds_toArray, List.set_cons_zero, List.set_cons_succ]
      refine obs_step (Eq.trans (by simp only [List.getElem?_toArray, List.getElem?_cons_succ, List.getElem?_cons_zero]; exact rfl) rfl) rfl (fun w' hS hV K hK => ?_) ?_
      · have q2 := hS.1; have q3 := hS.2.1; have q4 := hS.2.2.1; obtain ⟨q0, q1⟩ := hS.2.2.2.1.two
        go_simp
        exact hK.out _ _ _ rfl rfl rfl (Below.refl _ _)
      simp only [List.setIfInBounds_toArray, List.set_cons_zero, List.set_cons_succ]
      refine obs_step (Eq.trans (by simp only [List.getElem?_toArray, List.getElem?_cons_succ, List.getElem?_cons_zero]; exact rfl) rfl) rfl (fun w' hS hV K hK => ?_) ?_
      · have e20 : x 20 = (.pointer (some ⟨w.heap.size, 0, none⟩)) := hV 20 (by decide)
        have q2 := hS.1; have q3 := hS.2.1; have q4 := hS.2.2.1; obtain ⟨q0, q1⟩ := hS.2.2.2.1.two
        go_simp
        exact hK.out _ _ _ rfl rfl rfl (Below.refl _ _)
      simp only [List.setIfInBounds_toArray, List.set_cons_zero, List.set_cons_succ]
      refine obs_step (Eq.trans (by simp only [List.getElem?_toArray, List.getElem?_cons_succ, List.getElem?_cons_zero]; exact rfl) rfl) rfl (fun w' hS hV K hK => ?_) ?_
      · have e0 : x 0 = (.int .i64 (s)) := hV 0 (by decide)
        have e1 : x 1 = (.slice (some ⟨g, o, none⟩) n cx) := hV 1 (by decide)
        have e2 : x 2 = (.int .i64 (j)) := hV 2 (by decide)
        have e3 : x 3 = (.pointer (some ⟨g, o + j, none⟩)) := hV 3 (by decide)
        have e4 : x 4 = (.int .i64 (xa)) := hV 4 (by decide)
        have e5 : x 5 = (.slice (some ⟨g2, o2, none⟩) n cy) := hV 5 (by decide)
        have e6 : x 6 = (.int .i64 (j)) := hV 6 (by decide)
        have e7 : x 7 = (.pointer (some ⟨g2, o2 + j, none⟩)) := hV 7 (by decide)
        have e8 : x 8 = (.int .i64 (ya)) := hV 8 (by decide)
        have e9 : x 9 = (.int .i64 (xa * ya)) := hV 9 (by decide)
        have e10 : x 10 = (.pointer (some ⟨w.heap.size, 0, none⟩)) := hV 10 (by decide)
        have e11 : x 11 = (.int .i64 (P)) := hV 11 (by decide)
        have e12 : x 12 = (.int .i64 (xa * ya % P)) := hV 12 (by decide)
        have e13 : x 13 = (.pointer (some ⟨w.heap.size, 1, none⟩)) := hV 13 (by decide)
        have e14 : x 14 = (.slice (some ⟨g3, o3, none⟩) n c) := hV 14 (by decide)
        have e15 : x 15 = (.int .i64 (j)) := hV 15 (by decide)
        have e16 : x 16 = (.pointer (some ⟨g3, o3 + j, none⟩)) := hV 16 (by decide)
        have e17 : x 17 = (.int .i64 (za)) := hV 17 (by decide)
        have e18 : x 18 = (.int .i64 (xa * ya % P * za)) := hV 18 (by decide)
        have e19 : x 19 = (.int .i64 (s + xa * ya % P * za)) := hV 19 (by decide)
        have e20 : x 20 = (.pointer (some ⟨w.heap.size, 0, none⟩)) := hV 20 (by decide)
        have e21 : x 21 = (.int .i64 (P)) := hV 21 (by decide)
        have q2 := hS.1; have q3 := hS.2.1; have q4 := hS.2.2.1; obtain ⟨q0, q1⟩ := hS.2.2.2.1.two
        go_simp
        exact hK.out _ _ _ rfl rfl rfl (Below.refl _ _)
      simp only [List.setIfInBounds_toArray, List.set_cons_zero, List.set_cons_succ]
      refine fun w' hS hV => ?_
      have e0 : x 0 = (.int .i64 (s)) := hV 0 (by decide)
      have e1 : x 1 = (.slice (some ⟨g, o, none⟩) n cx) := hV 1 (by decide)
      have e2 : x 2 = (.int .i64 (j)) := hV 2 (by decide)
      have e3 : x 3 = (.pointer (some ⟨g, o + j, none⟩)) := hV 3 (by decide)
      have e4 : x 4 = (.int .i64 (xa)) := hV 4 (by decide)
      have e5 : x 5 = (.slice (some ⟨g2, o2, none⟩) n cy) := hV 5 (by decide)
      have e6 : x 6 = (.int .i64 (j)) := hV 6 (by decide)
      have e7 : x 7 = (.pointer (some ⟨g2, o2 + j, none⟩)) := hV 7 (by decide)
      have e8 : x 8 = (.int .i64 (ya)) := hV 8 (by decide)
      have e9 : x 9 = (.int .i64 (xa * ya)) := hV 9 (by decide)
      have e10 : x 10 = (.pointer (some ⟨w.heap.size, 0, none⟩)) := hV 10 (by decide)
      have e11 : x 11 = (.int .i64 (P)) := hV 11 (by decide)
      have e12 : x 12 = (.int .i64 (xa * ya % P)) := hV 12 (by decide)
      have e13 : x 13 = (.pointer (some ⟨w.heap.size, 1, none⟩)) := hV 13 (by decide)
      have e14 : x 14 = (.slice (some ⟨g3, o3, none⟩) n c) := hV 14 (by decide)
      have e15 : x 15 = (.int .i64 (j)) := hV 15 (by decide)
      have e16 : x 16 = (.pointer (some ⟨g3, o3 + j, none⟩)) := hV 16 (by decide)
      have e17 : x 17 = (.int .i64 (za)) := hV 17 (by decide)
      have e18 : x 18 = (.int .i64 (xa * ya % P * za)) := hV 18 (by decide)
      have e19 : x 19 = (.int .i64 (s + xa * ya % P * za)) := hV 19 (by decide)
      have e20 : x 20 = (.pointer (some ⟨w.heap.size, 0, none⟩)) := hV 20 (by decide)
      have e21 : x 21 = (.int .i64 (P)) := hV 21 (by decide)
      have e22 : x 22 = (.int .i64 ((s + xa * ya % P * za) % P)) := hV 22 (by decide)
      simp only [e0, e1, e2, e3, e4, e5, e6, e7, e8, e9, e10, e11, e12, e13, e14, e15, e16, e17, e18, e19, e20, e21, e22]
      clear e0 e1 e2 e3 e4 e5 e6 e7 e8 e9 e10 e11 e12 e13 e14 e15 e16 e17 e18 e19 e20 e21 e22
      refine any_one (j := 23) (by kernel_rfl) (Eq.trans (by simp only [List.getElem?_toArray, List.getElem?_cons_succ, List.getElem?_cons_zero]; exact rfl) rfl) (fun K hK => ?_)
      go_simp
      refine hK.out _ _ (wpAny_done (by kernel_rfl) ?_ _)
      have k3 := hS.2.2.2.1
      have HB3 := Lib.hid (hB1.trans (hS.2.2.2.2.mono hB1.size))
      clear W1 W2 W3 T1 T2 hS
      go_wp2
      go_roundw
      case rel => exact ⟨j + 1, by omega, by go_num, by rw [HST.out], HB3.out, k3⟩
      case measure => simp [intOf]; omega
    · obtain rfl : j = n := by omega
      clear hst
      go_wp2
      go_ret
      exact ⟨ret_int (HEN.out trivial).symm, hB1⟩
end Go.Proofs.YtggigolkncckoaaGreat
namespace Go.Proofs.YtggigolkncckoaaGreat
theorem cg_add {p a b c d : Int} (h : a % p = b % p) (h' : c % p = d % p) : (a + c) % p = (b + d) % p := by rw [Int.add_emod, h, h', ← Int.add_emod]
theorem cg_mul {p a b c d : Int} (h : a % p = b % p) (h' : c % p = d % p) : a * c % p = b * d % p := by rw [Int.mul_emod, h, h', ← Int.mul_emod]
theorem cg_self (p a : Int) : a % p % p = a % p := Int.emod_emod_of_dvd _ (Int.dvd_refl p)
theorem getD_app_left {α : Type} (d : α) {xs : List α} (ys : List α) {i : Nat} (h : i < xs.length) : (xs ++ ys).getD i d = xs.getD i d := by
  rw [getD_of_lt d h, getD_of_lt d (by rw [List.length_append]; omega), List.getElem_append_left h]
theorem getD_app_right {α : Type} (d : α) (xs ys : List α) (i : Nat) : (xs ++ ys).getD (xs.length + i) d = ys.getD i d := by
  by_cases h : i < ys.length
  · rw [getD_of_lt d h, getD_of_lt d (by rw [List.length_append]; omega), List.getElem_append_right (by omega)]
    congr 1; omega
  · rw [getD_of_ge d (show ys.length ≤ i by omega), getD_of_ge d (show (xs ++ ys).length ≤ xs.length + i by rw [List.length_append]; omega)]
/-- A sum of multiples of the rows. -/
def Sp (p : Int) (n : Nat) (m : List (List Int)) (v : Nat → Int) : Prop := ∃ c : Nat → Int, ∀ q, q < n → v q % p = (sumTo m.length fun i => c i * ent m i q) % p
theorem Sp.congr {p : Int} {n : Nat} {m : List (List Int)} {v u : Nat → Int} (h : Sp p n m v) (e : ∀ q, q < n → v q % p = u q % p) : Sp p n m u := by
  obtain ⟨c, hc⟩ := h
  exact ⟨c, fun q hq => (e q hq).symm.trans (hc q hq)⟩
theorem Sp.zero (p : Int) (n : Nat) (m : List (List Int)) : Sp p n m fun _ => 0 := ⟨fun _ => 0, fun q _ => by rw [sumTo_zero fun i _ => Int.zero_mul _]⟩
theorem Sp.add {p : Int} {n : Nat} {m : List (List Int)} {v u : Nat → Int} (h : Sp p n m v) (h' : Sp p n m u) : Sp p n m fun q => v q + u q := by
  obtain ⟨c, hc⟩ := h
  obtain ⟨d, hd⟩ := h'
  refine ⟨fun i => c i + d i, fun q hq => ?_⟩
  rw [sumTo_congr (g := fun i => c i * ent m i q + d i * ent m i q) fun i _ => Int.add_mul _ _ _, sumTo_add]
  exact cg_add (hc q hq) (hd q hq)
theorem Sp.mul {p : Int} {n : Nat} {m : List (List Int)} {v : Nat → Int} (h : Sp p n m v) (k : Int) : Sp p n m fun q => k * v q := by
  obtain ⟨c, hc⟩ := h
  refine ⟨fun i => k * c i, fun q hq => ?_⟩
  rw [sumTo_congr (g := fun i => k * (c i * ent m i q)) fun i _ => Int.mul_assoc _ _ _, sumTo_mul]
  exact cg_mul rfl (hc q hq)
theorem Sp.row {p : Int} {n : Nat} {m : List (List Int)} {i : Nat} (hi : i < m.length) : Sp p n m fun q => ent m i q := by
  refine ⟨fun j => if j = i then 1 else 0, fun q _ => ?_⟩
  rw [sumTo_one (f := fun j => (if j = i then 1 else 0) * ent m j q) i hi (fun j _ hj => by simp only [if_neg hj, Int.zero_mul])]
  simp
theorem Sp.mem {p : Int} {n : Nat} {m : List (List Int)} {x : List Int} (hx : x ∈ m) : Sp p n m fun q => x.getD q 0 := by
  obtain ⟨i, hi, rfl⟩ := List.getElem_of_mem hx
  refine (Sp.row hi).congr fun q _ => ?_
  unfold ent; rw [getD_of_lt [] hi]
theorem Sp.sum {p : Int} {n : Nat} {m : List (List Int)} (k : Nat) {f : Nat → Nat → Int} (h : ∀ i, i < k → Sp p n m (f i)) : Sp p n m fun q => sumTo k fun i => f i q := by
  induction k with
  | zero => exact Sp.zero p n m
  | succ k ih => exact (ih fun i hi => h i (by omega)).add (h k (by omega))
theorem Sp.nil {p : Int} {n : Nat} {v : Nat → Int} (h : Sp p n [] v) : ∀ q, q < n → v q % p = 0 := fun q hq => by
  obtain ⟨c, hc⟩ := h
  rw [hc q hq]; simp [sumTo]
/-- All rows of the first are made of those of the second. -/
def InSp (p : Int) (n : Nat) (m m' : List (List Int)) : Prop := ∀ i, i < m.length → Sp p n m' fun q => ent m i q
theorem InSp.sp {p : Int} {n : Nat} {m m' : List (List Int)} (h : InSp p n m m') {v : Nat → Int} (hv : Sp p n m v) : Sp p n m' v := by
  obtain ⟨c, hc⟩ := hv
  exact (Sp.sum m.length fun i hi => (h i hi).mul (c i)).congr fun q hq => (hc q hq).symm
theorem InSp.refl (p : Int) (n : Nat) (m : List (List Int)) : InSp p n m m := fun _ hi => Sp.row hi
theorem InSp.trans {p : Int} {n : Nat} {m m' m2 : List (List Int)} (h : InSp p n m m') (h' : InSp p n m' m2) : InSp p n m m2 := fun i hi => h'.sp (h i hi)
theorem InSp.of_mem {p : Int} {n : Nat} {m m' : List (List Int)} (h : ∀ x ∈ m, Sp p n m' fun q => x.getD q 0) : InSp p n m m' := fun i hi =>
  (h _ (List.getElem_mem hi)).congr fun q _ => by unfold ent; rw [getD_of_lt [] hi]
theorem InSp.append {p : Int} {n : Nat} {m1 m2 m' : List (List Int)} (h1 : InSp p n m1 m') (h2 : InSp p n m2 m') : InSp p n (m1 ++ m2) m' := InSp.of_mem fun x hx => by
  rcases List.mem_append.1 hx with h | h
  · exact h1.sp (Sp.mem h)
  · exact h2.sp (Sp.mem h)
theorem Sp.append {p : Int} {n : Nat} {m m' : List (List Int)} {v : Nat → Int} (h : Sp p n (m ++ m') v) : ∃ u u', Sp p n m u ∧ Sp p n m' u' ∧ ∀ q, q < n → v q % p = (u q + u' q) % p := by
  obtain ⟨c, hc⟩ := h
  refine ⟨fun q => sumTo m.length fun i => c i * ent m i q, fun q => sumTo m'.length fun i => c (m.length + i) * ent m' i q, ⟨c, fun _ _ => rfl⟩, ⟨fun i => c (m.length + i), fun _ _ => rfl⟩, fun q hq => ?_⟩
  rw [hc q hq, List.length_append]
  congr 1
  have e1 : ∀ i, i < m.length → ent (m ++ m') i q = ent m i q := fun i hi => by unfold ent; rw [getD_app_left [] _ hi]
  have e2 : ∀ k, sumTo (m.length + k) (fun i => c i * ent (m ++ m') i q) = sumTo m.length (fun i => c i * ent m i q) + sumTo k (fun i => c (m.length + i) * ent m' i q) := by
    intro k
    induction k with
    | zero => exact (sumTo_congr fun i hi => by rw [e1 i hi]).trans (by simp [sumTo])
    | succ k ih =>
      rw [← Nat.add_assoc, sumTo_succ, ih, sumTo_succ]
      have : ent (m ++ m') (m.length + k) q = ent m' k q := by unfold ent; rw [getD_app_right]
      rw [this]; omega
  exact e2 _
/-- Two numbers that have the same remainder and are remainders. -/
theorem cg_eq {p a b : Int} (ha : 0 ≤ a ∧ a < p) (hb : 0 ≤ b ∧ b < p) (h : a % p = b % p) : a = b := by
  rwa [Int.emod_eq_of_lt ha.1 ha.2, Int.emod_eq_of_lt hb.1 hb.2] at h
/-- Orthogonal to all rows. -/
def Orth (p : Int) (n : Nat) (m : List (List Int)) (v : Nat → Int) : Prop := ∀ i, i < m.length → (sumTo n fun q => ent m i q * v q) % p = 0
theorem Orth.sp {p : Int} {n : Nat} {m : List (List Int)} {v : Nat → Int} (h : Orth p n m v) {u : Nat → Int} (hu : Sp p n m u) : (sumTo n fun q => u q * v q) % p = 0 := by
  obtain ⟨c, hc⟩ := hu
  have e1 : (sumTo n fun q => u q * v q) % p = (sumTo n fun q => sumTo m.length fun i => c i * (ent m i q * v q)) % p := by
    refine sumTo_mod p fun q hq => ?_
    rw [sumTo_congr (f := fun i => c i * (ent m i q * v q)) (g := fun i => v q * (c i * ent m i q)) (fun i _ => by rw [Int.mul_comm (v q), Int.mul_assoc]), sumTo_mul, Int.mul_comm (v q)]
    exact cg_mul (hc q hq) rfl
  rw [e1, sumTo_comm]
  refine (sumTo_mod p (g := fun _ => 0) fun i hi => ?_).trans (by rw [sumTo_zero fun _ _ => rfl]; rfl)
  rw [sumTo_mul, Int.mul_emod, h i hi]; simp
theorem Orth.congr {p : Int} {n : Nat} {m : List (List Int)} {v u : Nat → Int} (h : Orth p n m v) (e : ∀ q, q < n → v q % p = u q % p) : Orth p n m u := fun i hi => by
  rw [← h i hi]; exact (sumTo_mod p fun q hq => cg_mul rfl (e q hq)).symm
theorem Orth.append {p : Int} {n : Nat} {m m' : List (List Int)} {v : Nat → Int} : Orth p n (m ++ m') v ↔ Orth p n m v ∧ Orth p n m' v := by
  have hall : ∀ M : List (List Int), Orth p n M v ↔ ∀ x ∈ M, (sumTo n fun q => x.getD q 0 * v q) % p = 0 := fun M => by
    constructor
    · intro h x hx
      obtain ⟨i, hi, rfl⟩ := List.getElem_of_mem hx
      have := h i hi
      unfold ent at this; rwa [getD_of_lt [] hi] at this
    · intro h i hi
      have := h _ (List.getElem_mem hi)
      unfold ent; rwa [getD_of_lt [] hi]
  rw [hall, hall, hall]
  constructor
  · exact fun h => ⟨fun x hx => h x (by simp [hx]), fun x hx => h x (by simp [hx])⟩
  · rintro ⟨h1, h2⟩ x hx
    rcases List.mem_append.1 hx with h | h
    · exact h1 x h
    · exact h2 x h
end Go.Proofs.YtggigolkncckoaaGreat
namespace Go.Proofs.YtggigolkncckoaaGreat
theorem half_ok {p : Int} (hP : isP p = true) : (p + 1) / 2 * 2 % p = 1 % p := by
  simp only [isP, Bool.or_eq_true, beq_iff_eq] at hP
  rcases hP with (((rfl | rfl) | rfl) | rfl) | rfl <;> decide
theorem inv_mod {p a : Int} (hP : isP p = true) (h : a % p ≠ 0) : a * invF p (a % p) % p = 1 := by
  have h3 := (isP_ge hP).1
  have h1 := Int.emod_nonneg a (show p ≠ 0 by omega)
  have h2 := Int.emod_lt_of_pos a (show 0 < p by omega)
  have hs := inv_spec hP (show 0 < a % p by omega) h2
  have := (hs.2.2 (invF p (a % p)) (by omega) hs.2.1).2 rfl
  rw [Int.mul_emod, Int.emod_emod_of_dvd _ (Int.dvd_refl p)] at this
  rw [Int.mul_emod]
  exact this
section
variable {p : Int} {sq : List Int}
theorem Cl.two (x : Cl p sq) : x + x = (2 : Int) * x := by
  have := Cl.add_sm 1 1 x
  rw [Cl.one_sm] at this
  exact this.symm
theorem Cl.half {x y : Cl p sq} (hP : isP p = true) (h : (2 : Int) * x = (2 : Int) * y) : x = y := by
  have e : ∀ z : Cl p sq, ((p + 1) / 2 : Int) * ((2 : Int) * z) = z := fun z => by rw [Cl.sm_sm, Cl.sm_cg (half_ok hP), Cl.one_sm]
  rw [← e x, h, e y]
theorem Cl.add_back (x y : Cl p sq) (k : Int) : x + k * y + (-k) * y = x := by
  rw [Cl.add_assoc, ← Cl.add_sm, show k + -k = 0 by omega, Cl.zero_sm, Cl.add_zero]
theorem Cl.move {x y z : Cl p sq} {k : Int} (h : x + k * y = z) : x = z + (-k) * y := by rw [← h, Cl.add_back]
theorem Cl.neg_mul (x y : Cl p sq) : (-x) * y = (-1 : Int) * (x * y) := by rw [Cl.neg_sm, Cl.sm_mul]
theorem Cl.vec_plus (hp : 0 < p) {a b : List Int} (ha : a.length = sq.length) (k : Int) : (Cl.vec hp (plusL p a b k) : Cl p sq) = Cl.vec hp a + k * Cl.vec hp b := Cl.same fun m hm => by
  rw [Cl.vec_co hp _ hm, Cl.add_co _ _ hm, Int.add_emod, Cl.vec_co hp _ hm, Cl.sm_co _ _ hm, Int.mul_emod, Cl.vec_co hp _ hm, ← Int.mul_emod, ← Int.add_emod, ← sumTo_mul, ← sumTo_add]
  refine sumTo_mod p fun i hi => ?_
  by_cases h : m = 2 ^ i
  · rw [if_pos h, if_pos h, if_pos h, plusL_getD _ _ (by omega), Int.emod_emod_of_dvd _ (Int.dvd_refl p)]
  · rw [if_neg h, if_neg h, if_neg h, Int.mul_zero]; rfl
theorem Cl.vec_at (hp : 0 < p) {v : List Int} (hv : NumsL p v) (hl : v.length = sq.length) : partL sq.length (Cl.vec hp v : Cl p sq).l = v := by
  refine list_ext_getD 0 (by rw [partL_len, hl]) fun i hi => ?_
  rw [partL_len] at hi
  have e : (partL sq.length (Cl.vec hp v : Cl p sq).l).getD i 0 = (Cl.vec hp v : Cl p sq).co (2 ^ i) := by
    unfold partL
    rw [getD_of_lt 0 (by simpa using hi), List.getElem_map, List.getElem_range]; rfl
  rw [e, ← Cl.co_mod, Cl.vec_co hp v (two_lt hi), sumTo_one i hi fun j hj hne => if_neg fun e => hne (pow_inj e).symm, if_pos rfl]
  have := hv.getD hp i
  exact Int.emod_eq_of_lt this.1 this.2
theorem Cl.vec_rev (hp : 0 < p) (v : List Int) : (Cl.vec hp v : Cl p sq).rev = Cl.vec hp v := Cl.same fun m hm => by
  rw [Cl.rev_co _ hm, Int.mul_emod, Cl.vec_co hp v hm, ← Int.mul_emod, ← sumTo_mul]
  congr 1
  refine sumTo_congr fun i _ => ?_
  by_cases h : m = 2 ^ i
  · rw [if_pos h, h]
    have : sgR (2 ^ i) = 1 := by unfold sgR; rw [pc_pow]; rfl
    rw [this, Int.one_mul]
  · rw [if_neg h, Int.mul_zero]
theorem Cl.vec_invo (hp : 0 < p) (v : List Int) : (Cl.vec hp v : Cl p sq).invo = (-1 : Int) * Cl.vec hp v := Cl.same fun m hm => by
  rw [Cl.invo_co _ hm, Int.mul_emod, Cl.vec_co hp v hm, ← Int.mul_emod, Cl.sm_co _ _ hm, Int.mul_emod (-1), Cl.vec_co hp v hm, ← Int.mul_emod, ← sumTo_mul, ← sumTo_mul]
  congr 1
  refine sumTo_congr fun i _ => ?_
  by_cases h : m = 2 ^ i
  · rw [if_pos h, h]
    have : sgI (2 ^ i) = -1 := by unfold sgI; rw [pc_pow]; rfl
    rw [this]
  · rw [if_neg h, Int.mul_zero, Int.mul_zero]
theorem Cl.vec_sq (hp : 0 < p) (hP : isP p = true) (v : List Int) : (Cl.vec hp v : Cl p sq) * Cl.vec hp v = bil sq v v * Cl.one hp := by
  refine Cl.half hP ?_
  rw [← Cl.two, Cl.vec_anti, Cl.sm_sm]
/-- What a vector on both sides does to a vector. -/
theorem Cl.vec_both (hp : 0 < p) (hP : isP p = true) (u w : List Int) : (Cl.vec hp u : Cl p sq) * Cl.vec hp w * Cl.vec hp u = (2 * bil sq u w) * Cl.vec hp u + (-(bil sq u u)) * Cl.vec hp w := by
  refine Cl.move ?_
  have h := congrArg (fun z : Cl p sq => z * Cl.vec hp u) (Cl.vec_anti hp u w)
  simp only [Cl.add_mul, Cl.sm_mul, Cl.one_mul] at h
  rw [Cl.mul_assoc (Cl.vec hp w), Cl.vec_sq hp hP, Cl.mul_sm, Cl.mul_one] at h
  exact h
theorem bil_plus {u : List Int} {a b : List Int} (ha : a.length = sq.length) (k : Int) : bil sq (plusL p a b k) u % p = (bil sq a u + k * bil sq b u) % p := by
  unfold bil
  rw [← sumTo_mul, ← sumTo_add]
  refine sumTo_mod p fun i hi => ?_
  rw [plusL_getD _ _ (by omega), Int.mul_assoc, Int.mul_emod, Int.emod_emod_of_dvd _ (Int.dvd_refl p), ← Int.mul_emod, Int.add_mul]
  congr 1
  rw [Int.mul_assoc, Int.mul_assoc, Int.mul_assoc]
theorem pairL_bil {v u : List Int} (hv : v.length = sq.length) : pairL p sq v u % p = bil sq v u % p := by
  rw [pairL_sum hv, Int.emod_emod_of_dvd _ (Int.dvd_refl p)]
  unfold bil
  refine sumTo_mod p fun i _ => ?_
  rw [Int.mul_emod, Int.emod_emod_of_dvd _ (Int.dvd_refl p), ← Int.mul_emod]
/-- The reflection of w in v. -/
def reflF (p : Int) (sq v w : List Int) : List Int := plusL p w v (-(2 * bil sq v w * invF p (bil sq v v % p)))
theorem reflF_len {v w : List Int} : (reflF p sq v w).length = w.length := plusL_len _ _ _ _
theorem reflF_nums (hp : 0 < p) (v w : List Int) : NumsL p (reflF p sq v w) := plusL_nums hp _ _ _
/-- Products of vectors. -/
def Cl.prod (hp : 0 < p) (vs : List (List Int)) : Cl p sq := vs.foldl (fun x v => x * Cl.vec hp v) (Cl.one hp)
theorem Cl.prod_from (hp : 0 < p) (vs : List (List Int)) : ∀ y : Cl p sq, vs.foldl (fun x v => x * Cl.vec hp v) y = y * Cl.prod hp vs := by
  induction vs with
  | nil => intro y; exact (Cl.mul_one hp y).symm
  | cons v vs ih =>
    intro y
    unfold Cl.prod
    rw [List.foldl_cons, ih, List.foldl_cons, ih, Cl.one_mul, Cl.mul_assoc]
theorem Cl.prod_cons (hp : 0 < p) (v : List Int) (vs : List (List Int)) : (Cl.prod hp (v :: vs) : Cl p sq) = Cl.vec hp v * Cl.prod hp vs := by
  have := Cl.prod_from hp vs (Cl.vec hp v : Cl p sq)
  rw [← this]
  unfold Cl.prod
  rw [List.foldl_cons, Cl.one_mul]
theorem Cl.prod_snoc (hp : 0 < p) (v : List Int) (vs : List (List Int)) : (Cl.prod hp (vs ++ [v]) : Cl p sq) = Cl.prod hp vs * Cl.vec hp v := by
  unfold Cl.prod
  rw [List.foldl_append]; rfl
/-- The product of the norms. -/
def nrmP (sq : List Int) : List (List Int) → Int
  | [] => 1
  | v :: vs => bil sq v v * nrmP sq vs
theorem Cl.prod_norm (hp : 0 < p) (hP : isP p = true) (h6 : sq.length ≤ 6) (vs : List (List Int)) : (Cl.prod hp vs : Cl p sq) * (Cl.prod hp vs).rev = nrmP sq vs * Cl.one hp := by
  induction vs with
  | nil => show Cl.one hp * (Cl.one hp).rev = (1 : Int) * Cl.one hp; rw [Cl.one_rev, Cl.mul_one, Cl.one_sm]
  | cons v vs ih =>
    rw [Cl.prod_cons, Cl.rev_mul h6, Cl.vec_rev, Cl.mul_assoc, ← Cl.mul_assoc (Cl.prod hp vs), ih, Cl.sm_mul, Cl.one_mul, Cl.mul_sm, Cl.vec_sq hp hP, Cl.sm_sm]
    show _ = (bil sq v v * nrmP sq vs) * Cl.one hp
    rw [Int.mul_comm]
theorem Cl.prod_invo (hp : 0 < p) (vs : List (List Int)) : (Cl.prod hp vs : Cl p sq).invo = sg vs.length * Cl.prod hp vs := by
  induction vs with
  | nil => show (Cl.one hp).invo = (1 : Int) * Cl.one hp; rw [Cl.one_invo, Cl.one_sm]
  | cons v vs ih =>
    rw [Cl.prod_cons, Cl.invo_mul, ih, Cl.vec_invo, Cl.sm_mul, Cl.mul_sm, Cl.sm_sm, List.length_cons, sg_add]
    congr 1
    show -1 * sg vs.length = sg vs.length * -1
    exact Int.mul_comm _ _
/-- What the product does to a vector: the reflections in its vectors, the last one first. -/
def refls (p : Int) (sq : List Int) (vs : List (List Int)) (w : List Int) : List Int := vs.foldr (fun v w => reflF p sq v w) w
theorem refls_len (vs : List (List Int)) (w : List Int) : (refls p sq vs w).length = w.length := by
  induction vs with
  | nil => rfl
  | cons v vs ih => show (reflF p sq v (refls p sq vs w)).length = _; rw [reflF_len, ih]
theorem refls_nums (hp : 0 < p) (vs : List (List Int)) {w : List Int} (hw : NumsL p w) : NumsL p (refls p sq vs w) := by
  cases vs with
  | nil => exact hw
  | cons v vs => exact reflF_nums hp _ _
theorem Cl.one_refl (hp : 0 < p) (hP : isP p = true) {v w : List Int} (hw : w.length = sq.length) (hv : bil sq v v % p ≠ 0) : (Cl.vec hp v : Cl p sq) * Cl.vec hp w * Cl.vec hp v = (-(bil sq v v)) * Cl.vec hp (reflF p sq v w) := by
  rw [Cl.vec_both hp hP]
  unfold reflF
  rw [Cl.vec_plus hp hw, Cl.sm_add, Cl.sm_sm, Cl.add_comm]
  congr 1
  refine Cl.sm_cg ?_ _
  have h1 := inv_mod hP hv
  have h3 := (isP_ge hP).1
  have h2 : (1 : Int) % p = bil sq v v * invF p (bil sq v v % p) % p := by rw [h1, Int.emod_eq_of_lt (by omega) (by omega)]
  have h4 := cg_mul h2 (show 2 * bil sq v w % p = 2 * bil sq v w % p from rfl)
  rw [Int.one_mul] at h4
  rw [h4, Int.neg_mul_neg]
  congr 1
  rw [Int.mul_assoc, Int.mul_comm (invF p _)]
theorem Cl.prod_acts (hp : 0 < p) (hP : isP p = true) (h6 : sq.length ≤ 6) (vs : List (List Int)) (hvs : ∀ v ∈ vs, bil sq v v % p ≠ 0) {w : List Int} (hw : w.length = sq.length) :
    (Cl.prod hp vs : Cl p sq).invo * Cl.vec hp w * (Cl.prod hp vs).rev = nrmP sq vs * Cl.vec hp (refls p sq vs w) := by
  induction vs with
  | nil =>
    show (Cl.one hp).invo * Cl.vec hp w * (Cl.one hp).rev = (1 : Int) * Cl.vec hp w
    rw [Cl.one_invo, Cl.one_rev, Cl.mul_one, Cl.one_mul, Cl.one_sm]
  | cons v vs ih =>
    have ih := ih fun u hu => hvs u (List.mem_cons_of_mem _ hu)
    rw [Cl.prod_cons, Cl.invo_mul, Cl.rev_mul h6, Cl.vec_rev, Cl.vec_invo]
    have e : (-1 : Int) * Cl.vec hp v * (Cl.prod hp vs).invo * Cl.vec hp w * ((Cl.prod hp vs).rev * Cl.vec hp v) = (-1 : Int) * (Cl.vec hp v * ((Cl.prod hp vs).invo * Cl.vec hp w * (Cl.prod hp vs).rev) * Cl.vec hp v : Cl p sq) := by
      simp only [Cl.sm_mul, Cl.mul_assoc]
    rw [e, ih, Cl.mul_sm, Cl.sm_mul, Cl.one_refl hp hP (by rw [refls_len]; exact hw) (hvs v (List.mem_cons_self ..)), Cl.sm_sm, Cl.sm_sm]
    show _ = (bil sq v v * nrmP sq vs) * Cl.vec hp (reflF p sq v (refls p sq vs w))
    congr 1
    rw [Int.neg_mul, Int.one_mul, Int.mul_neg, Int.neg_mul, Int.neg_neg, Int.mul_comm]
end
end Go.Proofs.YtggigolkncckoaaGreat
namespace Go.Proofs.YtggigolkncckoaaGreat
section
variable {p : Int} {sq : List Int}
theorem neg_ne {p : Int} (hP : isP p = true) {a : Int} (ha : 0 ≤ a ∧ a < p) (h0 : a ≠ 0) : a % p ≠ (-a) % p := by
  obtain ⟨a1, a2⟩ := ha
  simp only [isP, Bool.or_eq_true, beq_iff_eq] at hP
  rcases hP with (((rfl | rfl) | rfl) | rfl) | rfl <;> omega
theorem mul_ne {p : Int} (hP : isP p = true) {a b : Int} (ha : a % p ≠ 0) (hb : b % p ≠ 0) : a * b % p ≠ 0 := fun h => by
  have h3 := (isP_ge hP).1
  rw [Int.mul_emod] at h
  rcases mul_zero_mod hP (emod_small a p (by omega)) (emod_small b p (by omega)) h with h | h
  · exact ha h
  · exact hb h
theorem nrmP_ne {p : Int} (hP : isP p = true) (vs : List (List Int)) (hvs : ∀ v ∈ vs, bil sq v v % p ≠ 0) : nrmP sq vs % p ≠ 0 := by
  induction vs with
  | nil =>
    show (1 : Int) % p ≠ 0
    have h3 := (isP_ge hP).1
    rw [Int.emod_eq_of_lt (by omega) (by omega)]; decide
  | cons v vs ih => exact mul_ne hP (hvs v (List.mem_cons_self ..)) (ih fun u hu => hvs u (List.mem_cons_of_mem _ hu))
theorem only_iff {ys : List Int} (hl : ys.length ≤ 64) (k : Nat) : onlyL ys k = true ↔ ∀ i, i < ys.length → pc i ≠ k → ys.getD i 0 = 0 := by
  unfold onlyL
  rw [Bool.not_eq_true', List.any_eq_false]
  constructor
  · intro h i hi hne
    by_cases h0 : ys.getD i 0 = 0
    · exact h0
    · have := h _ ((gradesL_mem ys hl _).2 ⟨i, hi, h0, rfl⟩)
      simp at this
      omega
  · intro h g hg
    obtain ⟨i, hi, h0, rfl⟩ := (gradesL_mem ys hl _).1 hg
    by_cases hp : pc i = k
    · simp [hp]
    · exact absurd (h i hi hp) h0
theorem Cl.only_co (h6 : sq.length ≤ 6) (x : Cl p sq) (k : Nat) : onlyL x.l k = true ↔ ∀ m, m < pw sq.length → pc m ≠ k → x.co m = 0 := by
  rw [only_iff (by rw [x.len]; exact pw_le (k := 6) h6), x.len]; rfl
theorem pc_zero_iff {m : Nat} (h : pc m = 0) : m = 0 := by
  have : ∀ k a, a < 2 ^ k → pc a = 0 → a = 0 := by
    intro k
    induction k with
    | zero => intro a ha _; omega
    | succ k ih =>
      intro a ha hz
      rw [pc_rec] at hz
      have := ih (a / 2) (by rw [Nat.pow_succ] at ha; omega) (by omega)
      omega
  exact this m m Nat.lt_two_pow_self h
/-- Only grade 0: a number. -/
theorem Cl.only_zero (h6 : sq.length ≤ 6) (hp : 0 < p) (x : Cl p sq) : onlyL x.l 0 = true ↔ x = x.co 0 * Cl.one hp := by
  have h := x.only_co h6 0
  refine h.trans ⟨fun h0 => Cl.same fun m hm => ?_, fun e m hm hne => ?_⟩
  · rw [Cl.sm_co _ _ hm, Int.mul_emod, Cl.one_co hp hm, ← Int.mul_emod]
    by_cases hz : m = 0
    · rw [if_pos hz, hz, Int.mul_one]
    · rw [if_neg hz, h0 m hm fun e => hz (pc_zero_iff e), Int.mul_zero]
  · have e1 : x.co m = (x.co 0 * Cl.one hp : Cl p sq).co m := congrArg (fun y : Cl p sq => y.co m) e
    rw [e1, ← Cl.co_mod, Cl.sm_co _ _ hm, Int.mul_emod, Cl.one_co hp hm, ← Int.mul_emod, if_neg fun hz => hne (by rw [hz, pc_zero]), Int.mul_zero, Int.zero_emod]
theorem Cl.vec_only (h6 : sq.length ≤ 6) (hp : 0 < p) (v : List Int) : onlyL (Cl.vec hp v : Cl p sq).l 1 = true := by
  refine (Cl.only_co h6 _ 1).2 fun m hm hne => ?_
  rw [← Cl.co_mod, Cl.vec_co hp _ hm, sumTo_zero fun i _ => if_neg fun e => hne (by rw [e, pc_pow]), Int.zero_emod]
theorem Cl.invo_par (hP : isP p = true) (h6 : sq.length ≤ 6) (x : Cl p sq) (c : Nat) (h : x.invo = sg c * x) : ∀ m, m < pw sq.length → x.co m ≠ 0 → pc m % 2 = c % 2 := fun m hm hne => by
  have h3 := (isP_ge hP).1
  have e1 : x.invo.co m % p = (sg c * x : Cl p sq).co m % p := congrArg (fun y : Cl p sq => y.co m % p) h
  rw [Cl.invo_co _ hm, Cl.sm_co _ _ hm, sgI_sg] at e1
  have hx := x.co_small m
  rcases Nat.mod_two_eq_zero_or_one (pc m) with ha | ha <;> rcases Nat.mod_two_eq_zero_or_one c with hb | hb
  · omega
  · exfalso
    have s1 : sg (pc m) = 1 := by unfold sg; rw [ha]; rfl
    have s2 : sg c = -1 := by unfold sg; rw [hb]; rfl
    rw [s1, s2, Int.one_mul, Int.neg_mul, Int.one_mul] at e1
    exact neg_ne hP hx hne e1
  · exfalso
    have s1 : sg (pc m) = -1 := by unfold sg; rw [ha]; rfl
    have s2 : sg c = 1 := by unfold sg; rw [hb]; rfl
    rw [s1, s2, Int.one_mul, Int.neg_mul, Int.one_mul] at e1
    exact neg_ne hP hx hne e1.symm
  · omega
theorem mixB_none {gs : List Int} {c : Int} (h : ∀ g ∈ gs, g % (2 : Int) = c) : mixB gs = false := by
  unfold mixB
  rw [List.any_eq_false]
  intro g hg
  have h0 : gs.getD 0 0 ∈ gs := getD_mem 0 (List.length_pos_of_mem hg)
  rw [h g hg, h _ h0]
  simp
theorem mixB_some {gs : List Int} (h : mixB gs = false) : ∀ g ∈ gs, g % (2 : Int) = gs.getD 0 0 % (2 : Int) := fun g hg => by
  unfold mixB at h
  rw [List.any_eq_false] at h
  have := h g hg
  simpa using this
theorem Cl.mix_none (hP : isP p = true) (h6 : sq.length ≤ 6) (x : Cl p sq) (c : Nat) (h : x.invo = sg c * x) : mixB (gradesL x.l) = false := by
  have hl : x.l.length ≤ 64 := by rw [x.len]; exact pw_le (k := 6) h6
  refine mixB_none (c := (c : Int) % 2) fun g hg => ?_
  obtain ⟨i, hi, h0, rfl⟩ := (gradesL_mem x.l hl g).1 hg
  have := x.invo_par hP h6 c h i (by rw [← x.len]; exact hi) h0
  omega
theorem Cl.mix_some (h6 : sq.length ≤ 6) (x : Cl p sq) (h : mixB (gradesL x.l) = false) : ∃ c : Nat, c < 2 ∧ x.invo = sg c * x ∧ (evenL x.l = true ↔ c = 0 ∨ gradesL x.l = []) := by
  have hl : x.l.length ≤ 64 := by rw [x.len]; exact pw_le (k := 6) h6
  have hm := mixB_some h
  have hr := gradesL_range x.l
  obtain ⟨c0, hc0⟩ : ∃ c0 : Nat, (c0 : Int) = (gradesL x.l).getD 0 0 % 2 := ⟨((gradesL x.l).getD 0 0 % 2).toNat, by omega⟩
  refine ⟨c0, by omega, Cl.same fun m hm' => ?_, ?_⟩
  · rw [Cl.invo_co _ hm', Cl.sm_co _ _ hm']
    by_cases h0 : x.co m = 0
    · rw [h0, Int.mul_zero, Int.mul_zero]
    · have := hm _ ((gradesL_mem x.l hl (pc m)).2 ⟨m, by rw [x.len]; exact hm', h0, rfl⟩)
      rw [sgI_sg, sg_congr (k := pc m) (l := c0) (by omega)]
  · unfold evenL
    rw [Bool.not_eq_true', List.any_eq_false]
    constructor
    · intro he
      by_cases hn : gradesL x.l = []
      · exact .inr hn
      · left
        obtain ⟨g, hg⟩ := List.exists_mem_of_ne_nil _ hn
        have h1 := he g hg
        have h2 := hm g hg
        simp at h1
        omega
    · rintro (h0 | h0) g hg
      · have h2 := hm g hg
        simp
        omega
      · rw [h0] at hg; cases hg
theorem Cl.nrm_co (x : Cl p sq) : nrmL p sq x.l = (x * x.rev).co 0 := by
  unfold nrmL Cl.co
  rw [Cl.mul_l, Cl.rev_l]
/-- What is told to be a versor. -/
theorem Cl.vers_iff (hP : isP p = true) (hp : 0 < p) (h6 : sq.length ≤ 6) (x : Cl p sq) : versB p sq sq.length x.l = true ↔
    nrmL p sq x.l ≠ 0 ∧ x * x.rev = nrmL p sq x.l * Cl.one hp ∧ mixB (gradesL x.l) = false ∧ ∀ i, i < sq.length → onlyL (x.invo * Cl.vec hp (unitRow sq.length i) * x.rev : Cl p sq).l 1 = true := by
  unfold versB
  have h3 := (isP_ge hP).1
  rw [Bool.and_eq_true, Bool.and_eq_true, Bool.and_eq_true, Bool.not_eq_true', Bool.not_eq_true', List.all_eq_true, beq_eq_false_iff_ne]
  have e1 : mulL p sq x.l (revL p x.l) = (x * x.rev).l := by rw [Cl.mul_l, Cl.rev_l]
  rw [e1, (x * x.rev).only_zero h6 hp, ← Cl.nrm_co, and_assoc, and_assoc]
  refine and_congr_right fun _ => and_congr_right fun _ => and_congr_right fun _ => ?_
  constructor
  · intro h i hi
    have := h i (by simpa using hi)
    unfold imgL at this
    rw [Cl.mul_l, Cl.mul_l, Cl.invo_l, Cl.rev_l, Cl.vec_l hp (unitRow_nums (by omega) _ _)]
    exact this
  · intro h i hi
    have := h i (by simpa using hi)
    rw [Cl.mul_l, Cl.mul_l, Cl.invo_l, Cl.rev_l, Cl.vec_l hp (unitRow_nums (by omega) _ _)] at this
    exact this
/-- A vector is a sum of multiples of unit vectors. -/
def Cl.sum (hp : 0 < p) : Nat → (Nat → Cl p sq) → Cl p sq
  | 0, _ => Cl.zero hp
  | n + 1, f => Cl.sum hp n f + f n
theorem Cl.zero_mul (hp : 0 < p) (x : Cl p sq) : Cl.zero hp * x = Cl.zero hp := by
  have := Cl.zero_sm (x := (Cl.one hp : Cl p sq))
  rw [← this, Cl.sm_mul, Cl.one_mul, Cl.zero_sm, Cl.zero_sm]
theorem Cl.mul_zero (hp : 0 < p) (x : Cl p sq) : x * Cl.zero hp = Cl.zero hp := by
  have := Cl.zero_sm (x := (Cl.one hp : Cl p sq))
  rw [← this, Cl.mul_sm, Cl.mul_one, Cl.zero_sm, Cl.zero_sm]
/-- Products of vectors are versors. -/
theorem Cl.prod_vers (hP : isP p = true) (hp : 0 < p) (h6 : sq.length ≤ 6) (vs : List (List Int)) (hvs : ∀ v ∈ vs, bil sq v v % p ≠ 0) : versB p sq sq.length (Cl.prod hp vs : Cl p sq).l = true ∧ nrmL p sq (Cl.prod hp vs : Cl p sq).l = nrmP sq vs % p := by
  have hn : nrmL p sq (Cl.prod hp vs : Cl p sq).l = nrmP sq vs % p := by
    rw [Cl.nrm_co, Cl.prod_norm hp hP h6, ← Cl.co_mod, Cl.sm_co _ _ (pw_pos _), Int.mul_emod, Cl.one_co hp (pw_pos _), ← Int.mul_emod, if_pos rfl, Int.mul_one]
  refine ⟨(Cl.vers_iff hP hp h6 _).2 ⟨?_, ?_, Cl.mix_none hP h6 _ _ (Cl.prod_invo hp vs), fun i _ => ?_⟩, hn⟩
  · rw [hn]; exact nrmP_ne hP vs hvs
  · rw [hn, Cl.prod_norm hp hP h6]
    exact Cl.sm_cg (Int.emod_emod_of_dvd _ (Int.dvd_refl p)).symm _
  · rw [Cl.prod_acts hp hP h6 vs hvs (unitRow_len _ _)]
    refine (Cl.only_co h6 _ 1).2 fun m hm hne => ?_
    rw [← Cl.co_mod, Cl.sm_co _ _ hm, (Cl.only_co h6 _ 1).1 (Cl.vec_only h6 hp _) m hm hne, Int.mul_zero, Int.zero_emod]
end
end Go.Proofs.YtggigolkncckoaaGreat
namespace Go.Proofs.YtggigolkncckoaaGreat
open Go.RowKit
/-- The geometric product of vectors. -/
def versL (P : Int) (sq : List Int) (n : Nat) (L : List (List Int)) : List Int := L.foldl (fun o v => mulL P sq o (vecTo n v n)) (bladeL n 0)
theorem versL_snoc (P : Int) (sq : List Int) (n : Nat) (L : List (List Int)) (v : List Int) : versL P sq n (L ++ [v]) = mulL P sq (versL P sq n L) (vecTo n v n) := by unfold versL; rw [List.foldl_append]; rfl
theorem mulL_len' (P : Int) (sq xs ys : List Int) : (mulL P sq xs ys).length = xs.length := by unfold mulL; rw [prodL_len]
theorem versL_len (P : Int) (sq : List Int) (n : Nat) : ∀ (k : Nat) (L : List (List Int)), L.length = k → (versL P sq n L).length = pw n := by
  intro k
  induction k with
  | zero => intro L h; rw [List.eq_nil_of_length_eq_zero h]; exact bladeL_len n 0
  | succ k ih =>
    intro L h
    have hne : L ≠ [] := fun e => by rw [e] at h; simp at h
    rw [← List.dropLast_concat_getLast hne, versL_snoc, mulL_len']
    exact ih _ (by rw [List.length_dropLast, h]; rfl)
theorem versL_nums {P : Int} (hp : 2 ≤ P) (sq : List Int) (n : Nat) (L : List (List Int)) : NumsL P (versL P sq n L) := by
  by_cases h : L = []
  · rw [h]; exact bladeL_nums hp n 0
  · rw [← List.dropLast_concat_getLast h, versL_snoc]
    exact mulL_nums (by omega) _ _ _
set_option maxHeartbeats 3200000 in
set_option maxRecDepth 8000 in
theorem versor_any (P : Int) (A : Option Addr) (n c : Nat) (sq : List Int) (B : Option Addr) (m d : Nat) (L : List (List Int)) (w : World) (HP : isP P = true) (hn : n ≤ 6) (h0 : 0 < n) (hm : m ≤ 65536) (ha : Rd w A n (ints sq)) (hs : NumsL P sq) (hb : RdII w B m L) (hL : Tab P n L) :
    Calls Tryz.prog 155 #[.agg #[.int .i64 P, .slice A n c], .slice B m d] w fun e w' => ∃ A' c', e = .returned (.slice A' (pw n) c') ∧ MkI w w' A' (pw n) c' (versL P sq n L) := by
  obtain ⟨hp3, hp2⟩ := isP_ge HP
  have hp : 2 ≤ P := by omega
  have HML := Lib.hid hb.len
  have HTL := Lib.hid hL
  have hB0 : Below w.heap.size w (w.alloc (.cells #[.int .i64 P, .slice A n c] 26)) := (Below.refl _ _).alloc (Nat.le_refl _) _
  have k0 : Blk (w.alloc (.cells #[.int .i64 P, .slice A n c] 26)) w.heap.size 26 #[.int .i64 P, .slice A n c] := Blk.new _ _ _
  obtain ⟨q0, q1⟩ := k0.two
  clear hL
  go_enter Tryz.func155, Tryz.ntmps155
  go_wp2_with fail
  refine (one_any P A n c _ (by omega)).mono ?_
  rintro e w1 ⟨G, c1, rfl, hM1⟩
  have k1 := k0.below hM1.b k0.lt
  have hM := hM1.after hB0
  clear hM1 hB0 k0 q0 q1
  go_wp2
  go_loopw [5, 7, 12] (fun out _ i wr => ∃ (k : Nat) (G : Option Addr) (cg : Nat), k ≤ m ∧ i = .int .i64 k ∧ out = .slice G (pw n) cg ∧ MkI w wr G (pw n) cg (versL P sq n (L.take k)) ∧ Blk wr w.heap.size 26 #[.int .i64 P, .slice A n c]) (fun _ _ i _ => m - (intOf i).toNat)
  case atStart => exact ⟨0, _, _, by omega, rfl, rfl, by simpa [versL] using hM, k1⟩
  case round =>
    obtain ⟨k, G, cg, hk, rfl, rfl, hM2, k2⟩ := hrel
    clear hM k1
    obtain ⟨q0, q1⟩ := k2.two
    by_cases hlt : k < m
    · obtain ⟨g, o, rfl, hxk, A1, c1', hcx, hr, hcc⟩ := (hb.below hM2.b).at_ hlt
      have HRN := Lib.hid (HTL.out L[k] (List.getElem_mem hxk))
      have hl1 := HRN.out.1
      rw [hl1] at hcx hr
      have HR := Lib.hid hr
      have HT : Hid (versL P sq n (L.take (k + 1)) = mulL P sq (versL P sq n (L.take k)) (vecTo n L[k] n)) := Lib.hid (by rw [List.take_succ_eq_append_getElem hxk, versL_snoc])
      have HN := Lib.hid (versL_nums hp sq n (L.take k))
      have HLN := Lib.hid (versL_len P sq n _ (L.take k) rfl)
      have HM2 := Lib.hid hM2
      have HA := Lib.hid (ha.below hM2.b)
      have HSQ := Lib.hid hs
      obtain ⟨v, hv⟩ : ∃ v, v = L[k] := ⟨_, rfl⟩
      rw [← hv] at HRN HR HT
      obtain ⟨O, hO⟩ : ∃ O, O = versL P sq n (L.take k) := ⟨_, rfl⟩
      rw [← hO] at HT HN HM2 HLN
      have HTT := Lib.hid (timesL_two P sq n O (vecTo n v n) HLN.out HN.out)
      clear hl1 hr hcc hv hO hM2 hxk
      go_wp2
      refine wp_obs 7 [[], [], [], [], [2, 3], [1, 2, 3, 4], [0, 1, 2, 3, 4, 5], [0, 1, 2, 3, 4, 5, 6]] [VIs (.agg #[.int .i64 P, .slice A n c]), VIs (.slice G (pw n) cg), VIs (.agg #[.int .i64 P, .slice A n c]), VIs (.slice A1 n c1'), VSl wr (pw n) (vecTo n v n), VRow 2 [O, vecTo n v n], VSl wr (pw n) (mulL P sq O (vecTo n v n))] (fun w' => Blk w' w.heap.size 26 #[.int .i64 P, .slice A n c] ∧ Below wr.heap.size wr w') (by kernel_rfl) (by kernel_rfl) (fun _ _ h hb => ⟨h.1.below hb h.1.lt, h.2.trans (hb.mono h.2.size)⟩) (⟨k2.drew, (Below.refl _ _).drew⟩) (fun x => ?_)
      refine obs_step (Eq.trans (by simp only [List.getElem?_toArray, List.getElem?_cons_zero]; exact rfl) rfl) rfl (fun w' hS hV K hK => ?_) ?_
      · obtain ⟨q0, q1⟩ := hS.1.two
        go_simp
        exact hK.out _ _ _ rfl rfl rfl (Below.refl _ _)
      simp only [List.setIfInBounds_toArray, List.set_cons_zero, List.set_cons_succ]
      refine obs_step (Eq.trans (by simp only [List.getElem?_toArray, List.getElem?_cons_succ, List.getElem?_cons_zero]; exact rfl) rfl) rfl (fun w' hS hV K hK => ?_) ?_
      · obtain ⟨q0, q1⟩ := hS.1.two
        go_simp
        exact hK.out _ _ _ rfl rfl rfl (Below.refl _ _)
      simp only [List.setIfInBounds_toArray, List.set_cons_zero, List.set_cons_succ]
      refine obs_step (Eq.trans (by simp only [List.getElem?_toArray, List.getElem?_cons_succ, List.getElem?_cons_zero]; exact rfl) rfl) rfl (fun w' hS hV K hK => ?_) ?_
      · obtain ⟨q0, q1⟩ := hS.1.two
        go_simp
        exact hK.out _ _ _ rfl rfl rfl (Below.refl _ _)
      simp only [List.setIfInBounds_toArray, List.set_cons_zero, List.set_cons_succ]
      refine obs_step (Eq.trans (by simp only [List.getElem?_toArray, List.getElem?_cons_succ, List.getElem?_cons_zero]; exact rfl) rfl) rfl (fun w' hS hV K hK => ?_) ?_
      · obtain ⟨q0, q1⟩ := hS.1.two
        go_simp
        exact hK.out _ _ _ rfl rfl rfl (Below.refl _ _)
      simp only [List.setIfInBounds_toArray, List.set_cons_zero, List.set_cons_succ]
      refine obs_step (Eq.trans (by simp only [List.getElem?_toArray, List.getElem?_cons_succ, List.getElem?_cons_zero]; exact rfl) rfl) rfl (fun w' hS hV K hK => ?_) ?_
      · have e2 : x 2 = (.agg #[.int .i64 P, .slice A n c]) := hV 2 (by decide)
        have e3 : x 3 = (.slice A1 n c1') := hV 3 (by decide)
        obtain ⟨q0, q1⟩ := hS.1.two
        go_simp
        refine (vector_any P A n c _ _ v _ (by omega) (HR.out.below hS.2)).mono ?_
        rintro e v1 ⟨A2, c2, rfl, hM⟩
        exact hK.out _ _ _ rfl rfl ⟨_, _, rfl, hM.after hS.2⟩ hM.b
      simp only [List.setIfInBounds_toArray, List.set_cons_zero, List.set_cons_succ]
      refine obs_step (Eq.trans (by simp only [List.getElem?_toArray, List.getElem?_cons_succ, List.getElem?_cons_zero]; exact rfl) rfl) rfl (fun w' hS hV K hK => ?_) ?_
      · have e1 : x 1 = (.slice G (pw n) cg) := hV 1 (by decide)
        have e2 : x 2 = (.agg #[.int .i64 P, .slice A n c]) := hV 2 (by decide)
        have e3 : x 3 = (.slice A1 n c1') := hV 3 (by decide)
        obtain ⟨A4, c4, e4, h4⟩ := hV 4 (by decide)
        obtain ⟨q0, q1⟩ := hS.1.two
        go_simp
        exact hK.out _ _ _ rfl rfl ⟨_, _, rfl, rdII_two (Blk.new _ _ _) (Rd.below (HM2.out.below hS.2).rd ((Below.refl _ _).alloc (Nat.le_refl _) _)) (Rd.below h4.rd ((Below.refl _ _).alloc (Nat.le_refl _) _)) HM2.out.2.cap h4.2.cap⟩ ((Below.refl _ _).alloc (Nat.le_refl _) _)
      simp only [List.setIfInBounds_toArray, List.set_cons_zero, List.set_cons_succ]
      refine obs_step (Eq.trans (by simp only [List.getElem?_toArray, List.getElem?_cons_succ, List.getElem?_cons_zero]; exact rfl) rfl) rfl (fun w' hS hV K hK => ?_) ?_
      · have e0 : x 0 = (.agg #[.int .i64 P, .slice A n c]) := hV 0 (by decide)
        have e1 : x 1 = (.slice G (pw n) cg) := hV 1 (by decide)
        have e2 : x 2 = (.agg #[.int .i64 P, .slice A n c]) := hV 2 (by decide)
        have e3 : x 3 = (.slice A1 n c1') := hV 3 (by decide)
        obtain ⟨A4, c4, e4, h4⟩ := hV 4 (by decide)
        obtain ⟨A5, c5, e5, h5⟩ := hV 5 (by decide)
        obtain ⟨q0, q1⟩ := hS.1.two
        go_simp
        refine (times_any P A n c sq _ 2 _ [O, vecTo n v n] _ hp hp2 hn (by omega) (HA.out.below hS.2) HSQ.out h5 (all_two ⟨HN.out, HLN.out⟩ ⟨vecTo_nums (by omega) n _ HRN.out.2 n, vecTo_len _ _ _⟩)).mono ?_
        rw [HTT.out]
        rintro e v1 ⟨A2, c2, rfl, hM⟩
        exact hK.out _ _ _ rfl rfl ⟨_, _, rfl, hM.after hS.2⟩ hM.b
      simp only [List.setIfInBounds_toArray, List.set_cons_zero, List.set_cons_succ]
      refine fun w' hS hV => ?_
      have e0 : x 0 = (.agg #[.int .i64 P, .slice A n c]) := hV 0 (by decide)
      have e1 : x 1 = (.slice G (pw n) cg) := hV 1 (by decide)
      have e2 : x 2 = (.agg #[.int .i64 P, .slice A n c]) := hV 2 (by decide)
      have e3 : x 3 = (.slice A1 n c1') := hV 3 (by decide)
      obtain ⟨A4, c4, e4, h4⟩ := hV 4 (by decide)
      obtain ⟨A5, c5, e5, h5⟩ := hV 5 (by decide)
      obtain ⟨A6, c6, e6, h6⟩ := hV 6 (by decide)
      simp only [e0, e1, e2, e3, e4, e5, e6]
      clear e0 e1 e2 e3 e4 e5 e6
      refine any_one (j := 7) (by kernel_rfl) (Eq.trans (by simp only [List.getElem?_toArray, List.getElem?_cons_succ, List.getElem?_cons_zero]; exact rfl) rfl) (fun K hK => ?_)
      go_simp
      refine hK.out _ _ (wpAny_done (by kernel_rfl) ?_ _)
      have k3 := hS.1
      have HMN := Lib.hid (h6.after HM2.out.b)
      clear hS h6 h4 h5 HTT
      go_wp2
      go_roundw
      case rel => exact ⟨k + 1, A6, c6, by omega, by go_num, rfl, by rw [HT.out]; exact HMN.out, k3⟩
      case measure => simp [intOf]; omega
    · obtain rfl : k = m := by omega
      rw [List.take_of_length_le (by rw [HML.out]; exact Nat.le_refl _)] at hM2
      go_wp2
      go_ret
      exact ⟨_, _, rfl, hM2⟩
set_option maxHeartbeats 3200000 in
set_option maxRecDepth 8000 in
theorem l07Versor_any (P : Int) (A : Option Addr) (n c : Nat) (sq : List Int) (B : Option Addr) (m d : Nat) (L : List (List Int)) (w : World) (HP : isP P = true) (hn : n ≤ 6) (h0 : 0 < n) (hm : m ≤ 65536) (ha : Rd w A n (ints sq)) (hs : NumsL P sq) (hb : RdII w B m L) (hL : Tab P n L) :
    Calls Tryz.prog 160 #[.agg #[.int .i64 P, .slice A n c], .slice B m d] w fun e w' => ∃ A' c', e = .returned (.slice A' (pw n) c') ∧ MkI w w' A' (pw n) c' (versL P sq n L) := by
  obtain ⟨hp3, hp2⟩ := isP_ge HP
  have hp : 2 ≤ P := by omega
  have HML := Lib.hid hb.len
  have HTL := Lib.hid hL
  have hB0 : Below w.heap.size w (w.alloc (.cells #[.int .i64 P, .slice A n c] 26)) := (Below.refl _ _).alloc (Nat.le_refl _) _
  have k0 : Blk (w.alloc (.cells #[.int .i64 P, .slice A n c] 26)) w.heap.size 26 #[.int .i64 P, .slice A n c] := Blk.new _ _ _
  obtain ⟨q0, q1⟩ := k0.two
  clear hL
  go_enter Tryz.func160, Tryz.ntmps160
  go_wp2_with fail
  refine (l04One_any P A n c _ (by omega)).mono ?_
  rintro e w1 ⟨G, c1, rfl, hM1⟩
  have k1 := k0.below hM1.b k0.lt
  have hM := hM1.after hB0
  clear hM1 hB0 k0 q0 q1
  go_wp2
  go_loopw [5, 6] (fun out i wr => ∃ (k : Nat) (G : Option Addr) (cg : Nat), k ≤ m ∧ i = .int .i64 k ∧ out = .slice G (pw n) cg ∧ MkI w wr G (pw n) cg (versL P sq n (L.take k)) ∧ Blk wr w.heap.size 26 #[.int .i64 P, .slice A n c]) (fun _ i _ => m - (intOf i).toNat)
  case atStart => exact ⟨0, _, _, by omega, rfl, rfl, by simpa [versL] using hM, k1⟩
  case round =>
    obtain ⟨k, G, cg, hk, rfl, rfl, hM2, k2⟩ := hrel
    clear hM k1
    obtain ⟨q0, q1⟩ := k2.two
    by_cases hlt : k < m
    · obtain ⟨g, o, rfl, hxk, A1, c1', hcx, hr, hcc⟩ := (hb.below hM2.b).at_ hlt
      have HRN := Lib.hid (HTL.out L[k] (List.getElem_mem hxk))
      have hl1 := HRN.out.1
      rw [hl1] at hcx hr
      have HR := Lib.hid hr
      have HT : Hid (versL P sq n (L.take (k + 1)) = mulL P sq (versL P sq n (L.take k)) (vecTo n L[k] n)) := Lib.hid (by rw [List.take_succ_eq_append_getElem hxk, versL_snoc])
      have HN := Lib.hid (versL_nums hp sq n (L.take k))
      have HLN := Lib.hid (versL_len P sq n _ (L.take k) rfl)
      have HM2 := Lib.hid hM2
      have HA := Lib.hid (ha.below hM2.b)
      have HSQ := Lib.hid hs
      obtain ⟨v, hv⟩ : ∃ v, v = L[k] := ⟨_, rfl⟩
      rw [← hv] at HRN HR HT
      obtain ⟨O, hO⟩ : ∃ O, O = versL P sq n (L.take k) := ⟨_, rfl⟩
      rw [← hO] at HT HN HM2 HLN
      have HTT := Lib.hid (timesL_two P sq n O (vecTo n v n) HLN.out HN.out)
      clear hl1 hr hcc hv hO hM2 hxk
      go_wp2
      refine wp_obs 9 [[], [], [], [], [], [3, 4], [3, 4, 5], [2, 3, 4, 5, 6], [0, 1, 2, 3, 4, 5, 6, 7], [0, 1, 2, 3, 4, 5, 6, 7, 8]] [VIs (.agg #[.int .i64 P, .slice A n c]), VIs (.slice G (pw n) cg), VIs (.agg #[.int .i64 P, .slice A n c]), VIs (.slice (some ⟨g, o, none⟩) m d), VIs (.int .i64 (k)), VIs (.pointer (some ⟨g, o + k, none⟩)), VIs (.slice A1 n c1'), VSl wr (pw n) (vecTo n v n), VSl wr (pw n) (mulL P sq O (vecTo n v n))] (fun w' => w'.cell? ⟨g, o + k, none⟩ = some (.slice A1 n c1') ∧ Blk w' w.heap.size 26 #[.int .i64 P, .slice A n c] ∧ Below wr.heap.size wr w') (by kernel_rfl) (by kernel_rfl) (fun _ _ h hb => ⟨(hb.cell (World.block_lt_of_cell? _ _ h.1)).trans h.1, h.2.1.below hb h.2.1.lt, h.2.2.trans (hb.mono h.2.2.size)⟩) (⟨hcx, k2.drew, (Below.refl _ _).drew⟩) (fun x => ?_)
      refine obs_step (Eq.trans (by simp only [List.getElem?_toArray, List.getElem?_cons_zero]; exact rfl) rfl) rfl (fun w' hS hV K hK => ?_) ?_
      · have q2 := hS.1; obtain ⟨q0, q1⟩ := hS.2.1.two
        go_simp
        exact hK.out _ _ _ rfl rfl rfl (Below.refl _ _)
      simp only [List.setIfInBounds_toArray, List.set_cons_zero, List.set_cons_succ]
      refine obs_step (Eq.trans (by simp only [List.getElem?_toArray, List.getElem?_cons_succ, List.getElem?_cons_zero]; exact rfl) rfl) rfl (fun w' hS hV K hK => ?_) ?_
      · have q2 := hS.1; obtain ⟨q0, q1⟩ := hS.2.1.two
        go_simp
        exact hK.out _ _ _ rfl rfl rfl (Below.refl _ _)
      simp only [List.setIfInBounds_toArray, List.set_cons_zero, List.set_cons_succ]
      refine obs_step (Eq.trans (by simp only [List.getElem?_toArray, List.getElem?_cons_succ, List.getElem?_cons_zero]; exact rfl) rfl) rfl (fun w' hS hV K hK => ?_) ?_
      · have q2 := hS.1; obtain ⟨q0, q1⟩ := hS.2.1.two
        go_simp
        exact hK.out _ _ _ rfl rfl rfl (Below.refl _ _)
      simp only [List.setIfInBounds_toArray, List.set_cons_zero, List.set_cons_succ]
      refine obs_step (Eq.trans (by simp only [List.getElem?_toArray, List.getElem?_cons_succ, List.getElem?_cons_zero]; exact rfl) rfl) rfl (fun w' hS hV K hK => ?_) ?_
      · have q2 := hS.1; obtain ⟨q0, q1⟩ := hS.2.1.two
        go_simp
        exact hK.out _ _ _ rfl rfl rfl (Below.refl _ _)
      simp only [List.setIfInBounds_toArray, List.set_cons_zero, List.set_cons_succ]
      refine obs_step (Eq.trans (by simp only [List.getElem?_toArray, List.getElem?_cons_succ, List.getElem?_cons_zero]; exact rfl) rfl) rfl (fun w' hS hV K hK => ?_) ?_
      · have q2 := hS.1; obtain ⟨q0, q1⟩ := hS.2.1.two
        go_simp
        exact hK.out _ _ _ rfl rfl rfl (Below.refl _ _)
      simp only [List.setIfInBounds_toArray, List.set_cons_zero, List.set_cons_succ]
      refine obs_step (Eq.trans (by simp only [List.getElem?_toArray, List.getElem?_cons_succ, List.getElem?_cons_zero]; exact rfl) rfl) rfl (fun w' hS hV K hK => ?_) ?_
      · have e3 : x 3 = (.slice (some ⟨g, o, none⟩) m d) := hV 3 (by decide)
        have e4 : x 4 = (.int .i64 (k)) := hV 4 (by decide)
        have q2 := hS.1; obtain ⟨q0, q1⟩ := hS.2.1.two
        go_simp
        exact hK.out _ _ _ rfl rfl rfl (Below.refl _ _)
      simp only [List.setIfInBounds_toArray, List.set_cons_zero, List.set_cons_succ]
      refine obs_step (Eq.trans (by simp only [List.getElem?_toArray, List.getElem?_cons_succ, List.getElem?_cons_zero]; exact rfl) rfl) rfl (fun w' hS hV K hK => ?_) ?_
      · have e3 : x 3 = (.slice (some ⟨g, o, none⟩) m d) := hV 3 (by decide)
        have e4 : x 4 = (.int .i64 (k)) := hV 4 (by decide)
        have e5 : x 5 = (.pointer (some ⟨g, o + k, none⟩)) := hV 5 (by decide)
        have q2 := hS.1; obtain ⟨q0, q1⟩ := hS.2.1.two
        go_simp
        exact hK.out _ _ _ rfl rfl rfl (Below.refl _ _)
      simp only [List.setIfInBounds_toArray, List.set_cons_zero, List.set_cons_succ]
      refine obs_step (Eq.trans (by simp only [List.getElem?_toArray, List.getElem?_cons_succ, List.getElem?_cons_zero]; exact rfl) rfl) rfl (fun w' hS hV K hK => ?_) ?_
      · have e2 : x 2 = (.agg #[.int .i64 P, .slice A n c]) := hV 2 (by decide)
        have e3 : x 3 = (.slice (some ⟨g, o, none⟩) m d) := hV 3 (by decide)
        have e4 : x 4 = (.int .i64 (k)) := hV 4 (by decide)
        have e5 : x 5 = (.pointer (some ⟨g, o + k, none⟩)) := hV 5 (by decide)
        have e6 : x 6 = (.slice A1 n c1') := hV 6 (by decide)
        have q2 := hS.1; obtain ⟨q0, q1⟩ := hS.2.1.two
        go_simp
        refine (l04Vector_any P A n c _ _ v _ (by omega) (HR.out.below hS.2.2)).mono ?_
        rintro e v1 ⟨A2, c2, rfl, hM⟩
        exact hK.out _ _ _ rfl rfl ⟨_, _, rfl, hM.after hS.2.2⟩ hM.b
      simp only [List.setIfInBounds_toArray, List.set_cons_zero, List.set_cons_succ]
      refine obs_step (Eq.trans (by simp only [List.getElem?_toArray, List.getElem?_cons_succ, List.getElem?_cons_zero]; exact rfl) rfl) rfl (fun w' hS hV K hK => ?_) ?_
      · have e0 : x 0 = (.agg #[.int .i64 P, .slice A n c]) := hV 0 (by decide)
        have e1 : x 1 = (.slice G (pw n) cg) := hV 1 (by decide)
        have e2 : x 2 = (.agg #[.int .i64 P, .slice A n c]) := hV 2 (by decide)
        have e3 : x 3 = (.slice (some ⟨g, o, none⟩) m d) := hV 3 (by decide)
        have e4 : x 4 = (.int .i64 (k)) := hV 4 (by decide)
        have e5 : x 5 = (.pointer (some ⟨g, o + k, none⟩)) := hV 5 (by decide)
        have e6 : x 6 = (.slice A1 n c1') := hV 6 (by decide)
        obtain ⟨A7, c7, e7, h7⟩ := hV 7 (by decide)
        have q2 := hS.1; obtain ⟨q0, q1⟩ := hS.2.1.two
        go_simp
        refine (l04Times_any P A n c sq _ _ O _ _ (vecTo n v n) _ hp hp2 hn (HA.out.below hS.2.2) HSQ.out (HM2.out.below hS.2.2).rd HN.out h7.rd (vecTo_nums (by omega) n _ HRN.out.2 n)).mono ?_
        rw [show prodL P sq (fun _ _ => true) O (vecTo n v n) = mulL P sq O (vecTo n v n) from rfl]
        rintro e v1 ⟨A2, c2, rfl, hM⟩
        exact hK.out _ _ _ rfl rfl ⟨_, _, rfl, hM.after hS.2.2⟩ hM.b
      simp only [List.setIfInBounds_toArray, List.set_cons_zero, List.set_cons_succ]
      refine fun w' hS hV => ?_
      have e0 : x 0 = (.agg #[.int .i64 P, .slice A n c]) := hV 0 (by decide)
      have e1 : x 1 = (.slice G (pw n) cg) := hV 1 (by decide)
      have e2 : x 2 = (.agg #[.int .i64 P, .slice A n c]) := hV 2 (by decide)
      have e3 : x 3 = (.slice (some ⟨g, o, none⟩) m d) := hV 3 (by decide)
      have e4 : x 4 = (.int .i64 (k)) := hV 4 (by decide)
      have e5 : x 5 = (.pointer (some ⟨g, o + k, none⟩)) := hV 5 (by decide)
      have e6 : x 6 = (.slice A1 n c1') := hV 6 (by decide)
      obtain ⟨A7, c7, e7, h7⟩ := hV 7 (by decide)
      obtain ⟨A8, c8, e8, h8⟩ := hV 8 (by decide)
      simp only [e0, e1, e2, e3, e4, e5, e6, e7, e8]
      clear e0 e1 e2 e3 e4 e5 e6 e7 e8
      refine any_one (j := 9) (by kernel_rfl) (Eq.trans (by simp only [List.getElem?_toArray, List.getElem?_cons_succ, List.getElem?_cons_zero]; exact rfl) rfl) (fun K hK => ?_)
      go_simp
      refine hK.out _ _ (wpAny_done (by kernel_rfl) ?_ _)
      have k3 := hS.2.1
      have HMN := Lib.hid (h8.after HM2.out.b)
      clear hS h8 h7 HTT
      go_wp2
      go_roundw
      case rel => exact ⟨k + 1, A8, c8, by omega, by go_num, rfl, by rw [HT.out]; exact HMN.out, k3⟩
      case measure => simp [intOf]; omega
    · obtain rfl : k = m := by omega
      rw [List.take_of_length_le (by rw [HML.out]; exact Nat.le_refl _)] at hM2
      go_wp2
      go_ret
      exact ⟨_, _, rfl, hM2⟩
set_option maxHeartbeats 800000 in
theorem norm_any (P : Int) (A : Option Addr) (n c : Nat) (sq : List Int) (X : Option Addr) (cx : Nat) (v : List Int) (w : World) (hp : 2 ≤ P) (hp2 : P ≤ 13) (hn : n ≤ 6) (ha : Rd w A n (ints sq)) (hs : NumsL P sq) (hx : Rd w X n (ints v)) (hv : NumsL P v) :
    Calls Tryz.prog 151 #[.agg #[.int .i64 P, .slice A n c], .slice X n cx] w fun e w' => e = .returned (.int .i64 (pairL P sq v v)) ∧ Below w.heap.size w w' := by
  have hB0 : Below w.heap.size w (w.alloc (.cells #[.int .i64 P, .slice A n c] 26)) := (Below.refl _ _).alloc (Nat.le_refl _) _
  have k0 : Blk (w.alloc (.cells #[.int .i64 P, .slice A n c] 26)) w.heap.size 26 #[.int .i64 P, .slice A n c] := Blk.new _ _ _
  have hpr := pair_any P A n c sq X cx v X cx v (w.alloc (.cells #[.int .i64 P, .slice A n c] 26)) hp hp2 hn (ha.below hB0) hs (hx.below hB0) hv (hx.below hB0) hv
  obtain ⟨q0, q1⟩ := k0.two
  go_enter Tryz.func151, Tryz.ntmps151
  go_wp2_with fail
  refine hpr.mono ?_
  rintro e w2 ⟨rfl, hb⟩
  go_wp2
  go_ret
  exact ⟨rfl, hB0.trans (hb.mono hB0.size)⟩
theorem pairL_small {P : Int} (hp : 2 ≤ P) (sq v u : List Int) : 0 ≤ pairL P sq v u ∧ pairL P sq v u < P := by
  unfold pairL dotL
  exact ⟨Int.emod_nonneg _ (by omega), Int.emod_lt_of_pos _ (by omega)⟩
/-- The reflection in u of v, as the program computes it. -/
def rflL (P : Int) (sq u v : List Int) : List Int := plusL P v u (-2 * pairL P sq u v * invF P (pairL P sq u u))
theorem mul_two_small {P a b : Int} (h2 : P ≤ 13) (ha : 0 ≤ a ∧ a < P) (hb : 0 ≤ b ∧ b < P) : 0 ≤ a * b ∧ a * b ≤ 144 :=
  ⟨Int.mul_nonneg ha.1 hb.1, Int.le_trans (Int.mul_le_mul_of_nonneg_right (show a ≤ 12 by omega) hb.1) (by omega)⟩
set_option maxHeartbeats 3200000 in
set_option maxRecDepth 8000 in
theorem reflected_any (P : Int) (A : Option Addr) (n c : Nat) (sq : List Int) (U : Option Addr) (cu : Nat) (u : List Int) (Y : Option Addr) (cy : Nat) (v : List Int) (w : World) (HP : isP P = true) (hn : n ≤ 6) (ha : Rd w A n (ints sq)) (hs : NumsL P sq) (hx : Rd w U n (ints u)) (hu : NumsL P u) (hy : Rd w Y n (ints v)) (hv : NumsL P v) (hne : ¬ pairL P sq u u = 0) :
    Calls Tryz.prog 174 #[.agg #[.int .i64 P, .slice A n c], .slice U n cu, .slice Y n cy] w fun e w' => ∃ A' c', e = .returned (.slice A' n c') ∧ MkI w w' A' n c' (rflL P sq u v) := by
  obtain ⟨hp3, hp2⟩ := isP_ge HP
  have hp : 2 ≤ P := by omega
  have ha1 := pairL_small hp sq u v
  have hb1 := pairL_small hp sq u u
  have hi1 := invF_small hp (pairL P sq u u)
  have HM1 := mul_two_small hp2 ha1 hi1
  have HSA := Lib.hid hs
  have HUA := Lib.hid hu
  have HVA := Lib.hid hv
  obtain ⟨R, hR⟩ : ∃ R, R = rflL P sq u v := ⟨_, rfl⟩
  have HR := Lib.hid hR
  have HPR := Lib.hid fun (w' : World) (h : Below w.heap.size w w') => pair_any P A n c sq U cu u Y cy v w' hp hp2 hn (ha.below h) hs (hx.below h) hu (hy.below h) hv
  have HNR := Lib.hid fun (w' : World) (h : Below w.heap.size w w') => norm_any P A n c sq U cu u w' hp hp2 hn (ha.below h) hs (hx.below h) hu
  have HIN := Lib.hid fun (w' : World) => inv_any P (pairL P sq u u) w' hp hp2 (by omega) (by omega)
  have HPL := Lib.hid fun (w' : World) (h : Below w.heap.size w w') => plus_any P Y n cy U n cu (-2 * pairL P sq u v * invF P (pairL P sq u u)) v u w' hp hp2 (by omega) (Nat.le_refl _) (hy.below h) hv (hx.below h) hu (by rw [Int.mul_assoc]; omega) (by rw [Int.mul_assoc]; omega)
  rw [show plusL P v u (-2 * pairL P sq u v * invF P (pairL P sq u u)) = R from hR.symm] at HPL
  obtain ⟨a, hA⟩ : ∃ a, a = pairL P sq u v := ⟨_, rfl⟩
  obtain ⟨b, hB⟩ : ∃ b, b = pairL P sq u u := ⟨_, rfl⟩
  rw [← hB] at HNR HIN HPL HM1 hi1 hb1 hne
  rw [← hA] at HPR HPL HM1 ha1
  obtain ⟨i, hi⟩ : ∃ i, i = invF P b := ⟨_, rfl⟩
  rw [← hi] at HIN HPL HM1 hi1
  have W1 := i64_fit (-2 * a) (by omega) (by omega)
  have W2 := i64_fit (-2 * a * i) (by rw [Int.mul_assoc]; omega) (by rw [Int.mul_assoc]; omega)
  have hB0 : Below w.heap.size w (w.alloc (.cells #[.int .i64 P, .slice A n c] 26)) := (Below.refl _ _).alloc (Nat.le_refl _) _
  have k0 : Blk (w.alloc (.cells #[.int .i64 P, .slice A n c] 26)) w.heap.size 26 #[.int .i64 P, .slice A n c] := Blk.new _ _ _
  obtain ⟨q0, q1⟩ := k0.two
  clear hA hB hi hR hs hu hv ha hx hy HP
  go_enter Tryz.func174, Tryz.ntmps174
  go_wp2
  refine wp_obs 18 [[], [0], [], [], [], [], [], [4, 5, 6], [4, 5, 6, 7], [], [9], [], [], [11, 12], [9, 10, 11, 12, 13], [4, 5, 6, 7, 8, 9, 10, 11, 12, 13, 14], [0, 1, 2, 3, 4, 5, 6, 7, 8, 9, 10, 11, 12, 13, 14, 15], [0, 1, 2, 3, 4, 5, 6, 7, 8, 9, 10, 11, 12, 13, 14, 15, 16]] [VIs (.agg #[.int .i64 P, .slice A n c]), VIs (.int .i64 (P)), VIs (.slice Y n cy), VIs (.slice U n cu), VIs (.agg #[.int .i64 P, .slice A n c]), VIs (.slice U n cu), VIs (.slice Y n cy), VIs (.int .i64 (a)), VIs (.int .i64 (-2 * a)), VIs (.agg #[.int .i64 P, .slice A n c]), VIs (.int .i64 (P)), VIs (.agg #[.int .i64 P, .slice A n c]), VIs (.slice U n cu), VIs (.int .i64 (b)), VIs (.int .i64 (i)), VIs (.int .i64 (-2 * a * i)), VSl w n R, VSl w n R] (fun w' => Blk w' w.heap.size 26 #[.int .i64 P, .slice A n c] ∧ Below w.heap.size w w') (by kernel_rfl) (by kernel_rfl) (fun _ _ h hb => ⟨h.1.below hb h.1.lt, h.2.trans (hb.mono h.2.size)⟩) (⟨k0.drew, hB0.drew⟩) (fun x => ?_)
  refine obs_step (Eq.trans (by simp only [List.getElem?_toArray, List.getElem?_cons_zero]; exact rfl) rfl) rfl (fun w' hS hV K hK => ?_) ?_
  · obtain ⟨q0, q1⟩ := hS.1.two
    go_simp
    exact hK.out _ _ _ rfl rfl rfl (Below.refl _ _)
  simp only [List.setIfInBounds_toArray, List.set_cons_zero, List.set_cons_succ]
  refine obs_step (Eq.trans (by simp only [List.getElem?_toArray, List.getElem?_cons_succ, List.getElem?_cons_zero]; exact rfl) rfl) rfl (fun w' hS hV K hK => ?_) ?_
  · have e0 : x 0 = (.agg #[.int .i64 P, .slice A n c]) := hV 0 (by decide)
    obtain ⟨q0, q1⟩ := hS.1.two
    go_simp
    refine (field_any _ _ _ _ _).mono ?_
    rintro e v1 ⟨rfl, hb⟩
    exact hK.out _ _ _ rfl rfl rfl hb
  simp only [List.setIfInBounds_toArray, List.set_cons_zero, List.set_cons_succ]
  refine obs_step (Eq.trans (by simp only [List.getElem?_toArray, List.getElem?_cons_succ, List.getElem?_cons_zero]; exact rfl) rfl) rfl (fun w' hS hV K hK => ?_) ?_
  · obtain ⟨q0, q1⟩ := hS.1.two
    go_simp
    exact hK.out _ _ _ rfl rfl rfl (Below.refl _ _)
  simp only [List.setIfInBounds_toArray, List.set_cons_zero, List.set_cons_succ]
  refine obs_step (Eq.trans (by simp only [List.getElem?_toArray, List.getElem?_cons_succ, List.getElem?_cons_zero]; exact rfl) rfl) rfl (fun w' hS hV K hK => ?_) ?_
  · obtain ⟨q0, q1⟩ := hS.1.two
    go_simp
    exact hK.out _ _ _ rfl rfl rfl (Below.refl _ _)
  simp only [List.setIfInBounds_toArray, List.set_cons_zero, List.set_cons_succ]
  refine obs_step (Eq.trans (by simp only [List.getElem?_toArray, List.getElem?_cons_succ, List.getElem?_cons_zero]; exact rfl) rfl) rfl (fun w' hS hV K hK => ?_) ?_
  · obtain ⟨q0, q1⟩ := hS.1.two
    go_simp
    exact hK.out _ _ _ rfl rfl rfl (Below.refl _ _)
  simp only [List.setIfInBounds_toArray, List.set_cons_zero, List.set_cons_succ]
  refine obs_step (Eq.trans (by simp only [List.getElem?_toArray, List.getElem?_cons_succ, List.getElem?_cons_zero]; exact rfl) rfl) rfl (fun w' hS hV K hK => ?_) ?_
  · obtain ⟨q0, q1⟩ := hS.1.two
    go_simp
    exact hK.out _ _ _ rfl rfl rfl (Below.refl _ _)
  simp only [List.setIfInBounds_toArray, List.set_cons_zero, List.set_cons_succ]
  refine obs_step (Eq.trans (by simp only [List.getElem?_toArray, List.getElem?_cons_succ, List.getElem?_cons_zero]; exact rfl) rfl) rfl (fun w' hS hV K hK => ?_) ?_
  · obtain ⟨q0, q1⟩ := hS.1.two
    go_simp
    exact hK.out _ _ _ rfl rfl rfl (Below.refl _ _)
  simp only [List.setIfInBounds_toArray, List.set_cons_zero, List.set_cons_succ]
  refine obs_step (Eq.trans (by simp only [List.getElem?_toArray, List.getElem?_cons_succ, List.getElem?_cons_zero]; exact rfl) rfl) rfl (fun w' hS hV K hK => ?_) ?_
  · have e4 : x 4 = (.agg #[.int .i64 P, .slice A n c]) := hV 4 (by decide)
    have e5 : x 5 = (.slice U n cu) := hV 5 (by decide)
    have e6 : x 6 = (.slice Y n cy) := hV 6 (by decide)
    obtain ⟨q0, q1⟩ := hS.1.two
    go_simp
    refine (HPR.out _ hS.2).mono ?_
    rintro e v1 ⟨rfl, hb⟩
    exact hK.out _ _ _ rfl rfl rfl hb
  simp only [List.setIfInBounds_toArray, List.set_cons_zero, List.set_cons_succ]
  refine obs_step (Eq.trans (by simp only [List.getElem?_toArray, List.getElem?_cons_succ, List.getElem?_cons_zero]; exact rfl) rfl) rfl (fun w' hS hV K hK => ?_) ?_
  · have e4 : x 4 = (.agg #[.int .i64 P, .slice A n c]) := hV 4 (by decide)
    have e5 : x 5 = (.slice U n cu) := hV 5 (by decide)
    have e6 : x 6 = (.slice Y n cy) := hV 6 (by decide)
    have e7 : x 7 = (.int .i64 (a)) := hV 7 (by decide)
    obtain ⟨q0, q1⟩ := hS.1.two
    go_simp
    exact hK.out _ _ _ rfl rfl rfl (Below.refl _ _)
  simp only [List.setIfInBounds_toArray, List.set_cons_zero, List.set_cons_succ]
  refine obs_step (Eq.trans (by simp only [List.getElem?_toArray, List.getElem?_cons_succ, List.getElem?_cons_zero]; exact rfl) rfl) rfl (fun w' hS hV K hK => ?_) ?_
  · obtain ⟨q0, q1⟩ := hS.1.two
    go_simp
    exact hK.out _ _ _ rfl rfl rfl (Below.refl _ _)
  simp only [List.setIfInBounds_toArray, List.set_cons_zero, List.set_cons_succ]
  refine obs_step (Eq.trans (by simp only [List.getElem?_toArray, List.getElem?_cons_succ, List.getElem?_cons_zero]; exact rfl) rfl) rfl (fun w' hS hV K hK => ?_) ?_
  · have e9 : x 9 = (.agg #[.int .i64 P, .slice A n c]) := hV 9 (by decide)
    obtain ⟨q0, q1⟩ := hS.1.two
    go_simp
    refine (field_any _ _ _ _ _).mono ?_
    rintro e v1 ⟨rfl, hb⟩
    exact hK.out _ _ _ rfl rfl rfl hb
  simp only [List.setIfInBounds_toArray, List.set_cons_zero, List.set_cons_succ]
  refine obs_step (Eq.trans (by simp only [List.getElem?_toArray, List.getElem?_cons_succ, List.getElem?_cons_zero]; exact rfl) rfl) rfl (fun w' hS hV K hK => ?_) ?_
  · obtain ⟨q0, q1⟩ := hS.1.two
    go_simp
    exact hK.out _ _ _ rfl rfl rfl (Below.refl _ _)
  simp only [List.setIfInBounds_toArray, List.set_cons_zero, List.set_cons_succ]
  refine obs_step (Eq.trans (by simp only [List.getElem?_toArray, List.getElem?_cons_succ, List.getElem?_cons_zero]; exact rfl) rfl) rfl (fun w' hS hV K hK => ?_) ?_
  · obtain ⟨q0, q1⟩ := hS.1.two
    go_simp
    exact hK.out _ _ _ rfl rfl rfl (Below.refl _ _)
  simp only [List.setIfInBounds_toArray, List.set_cons_zero, List.set_cons_succ]
  refine obs_step (Eq.trans (by simp only [List.getElem?_toArray, List.getElem?_cons_succ, List.getElem?_cons_zero]; exact rfl) rfl) rfl (fun w' hS hV K hK => ?_) ?_
  · have e11 : x 11 = (.agg #[.int .i64 P, .slice A n c]) := hV 11 (by decide)
    have e12 : x 12 = (.slice U n cu) := hV 12 (by decide)
    obtain ⟨q0, q1⟩ := hS.1.two
    go_simp
    refine (HNR.out _ hS.2).mono ?_
    rintro e v1 ⟨rfl, hb⟩
    exact hK.out _ _ _ rfl rfl rfl hb
  simp only [List.setIfInBounds_toArray, List.set_cons_zero, List.set_cons_succ]
  refine obs_step (Eq.trans (by simp only [List.getElem?_toArray, List.getElem?_cons_succ, List.getElem?_cons_zero]; exact rfl) rfl) rfl (fun w' hS hV K hK => ?_) ?_
  · have e9 : x 9 = (.agg #[.int .i64 P, .slice A n c]) := hV 9 (by decide)
    have e10 : x 10 = (.int .i64 (P)) := hV 10 (by decide)
    have e11 : x 11 = (.agg #[.int .i64 P, .slice A n c]) := hV 11 (by decide)
    have e12 : x 12 = (.slice U n cu) := hV 12 (by decide)
    have e13 : x 13 = (.int .i64 (b)) := hV 13 (by decide)
    obtain ⟨q0, q1⟩ := hS.1.two
    go_simp
    refine (HIN.out _).mono ?_
    rintro e v1 ⟨rfl, rfl⟩
    exact hK.out _ _ _ rfl rfl rfl (Below.refl _ _)
  simp only [List.setIfInBounds_toArray, List.set_cons_zero, List.set_cons_succ]
  refine obs_step (Eq.trans (by simp only [List.getElem?_toArray, List.getElem?_cons_succ, List.getElem?_cons_zero]; exact rfl) rfl) rfl (fun w' hS hV K hK => ?_) ?_
  · have e4 : x 4 = (.agg #[.int .i64 P, .slice A n c]) := hV 4 (by decide)
    have e5 : x 5 = (.slice U n cu) := hV 5 (by decide)
    have e6 : x 6 = (.slice Y n cy) := hV 6 (by decide)
    have e7 : x 7 = (.int .i64 (a)) := hV 7 (by decide)
    have e8 : x 8 = (.int .i64 (-2 * a)) := hV 8 (by decide)
    have e9 : x 9 = (.agg #[.int .i64 P, .slice A n c]) := hV 9 (by decide)
    have e10 : x 10 = (.int .i64 (P)) := hV 10 (by decide)
    have e11 : x 11 = (.agg #[.int .i64 P, .slice A n c]) := hV 11 (by decide)
    have e12 : x 12 = (.slice U n cu) := hV 12 (by decide)
    have e13 : x 13 = (.int .i64 (b)) := hV 13 (by decide)
    have e14 : x 14 = (.int .i64 (i)) := hV 14 (by decide)
    obtain ⟨q0, q1⟩ := hS.1.two
    go_simp
    exact hK.out _ _ _ rfl rfl rfl (Below.refl _ _)
  simp only [List.setIfInBounds_toArray, List.set_cons_zero, List.set_cons_succ]
  refine obs_step (Eq.trans (by simp only [List.getElem?_toArray, List.getElem?_cons_succ, List.getElem?_cons_zero]; exact rfl) rfl) rfl (fun w' hS hV K hK => ?_) ?_
  · have e0 : x 0 = (.agg #[.int .i64 P, .slice A n c]) := hV 0 (by decide)
    have e1 : x 1 = (.int .i64 (P)) := hV 1 (by decide)
    have e2 : x 2 = (.slice Y n cy) := hV 2 (by decide)
    have e3 : x 3 = (.slice U n cu) := hV 3 (by decide)
    have e4 : x 4 = (.agg #[.int .i64 P, .slice A n c]) := hV 4 (by decide)
    have e5 : x 5 = (.slice U n cu) := hV 5 (by decide)
    have e6 : x 6 = (.slice Y n cy) := hV 6 (by decide)
    have e7 : x 7 = (.int .i64 (a)) := hV 7 (by decide)
    have e8 : x 8 = (.int .i64 (-2 * a)) := hV 8 (by decide)
    have e9 : x 9 = (.agg #[.int .i64 P, .slice A n c]) := hV 9 (by decide)
    have e10 : x 10 = (.int .i64 (P)) := hV 10 (by decide)
    have e11 : x 11 = (.agg #[.int .i64 P, .slice A n c]) := hV 11 (by decide)
    have e12 : x 12 = (.slice U n cu) := hV 12 (by decide)
    have e13 : x 13 = (.int .i64 (b)) := hV 13 (by decide)
    have e14 : x 14 = (.int .i64 (i)) := hV 14 (by decide)
    have e15 : x 15 = (.int .i64 (-2 * a * i)) := hV 15 (by decide)
    obtain ⟨q0, q1⟩ := hS.1.two
    go_simp
    refine (HPL.out _ hS.2).mono ?_
    rintro e v1 ⟨A2, c2, rfl, hM⟩
    exact hK.out _ _ _ rfl rfl ⟨_, _, rfl, hM.after hS.2⟩ hM.b
  simp only [List.setIfInBounds_toArray, List.set_cons_zero, List.set_cons_succ]
  refine obs_step (Eq.trans (by simp only [List.getElem?_toArray, List.getElem?_cons_succ, List.getElem?_cons_zero]; exact rfl) rfl) rfl (fun w' hS hV K hK => ?_) ?_
  · have e0 : x 0 = (.agg #[.int .i64 P, .slice A n c]) := hV 0 (by decide)
    have e1 : x 1 = (.int .i64 (P)) := hV 1 (by decide)
    have e2 : x 2 = (.slice Y n cy) := hV 2 (by decide)
    have e3 : x 3 = (.slice U n cu) := hV 3 (by decide)
    have e4 : x 4 = (.agg #[.int .i64 P, .slice A n c]) := hV 4 (by decide)
    have e5 : x 5 = (.slice U n cu) := hV 5 (by decide)
    have e6 : x 6 = (.slice Y n cy) := hV 6 (by decide)
    have e7 : x 7 = (.int .i64 (a)) := hV 7 (by decide)
    have e8 : x 8 = (.int .i64 (-2 * a)) := hV 8 (by decide)
    have e9 : x 9 = (.agg #[.int .i64 P, .slice A n c]) := hV 9 (by decide)
    have e10 : x 10 = (.int .i64 (P)) := hV 10 (by decide)
    have e11 : x 11 = (.agg #[.int .i64 P, .slice A n c]) := hV 11 (by decide)
    have e12 : x 12 = (.slice U n cu) := hV 12 (by decide)
    have e13 : x 13 = (.int .i64 (b)) := hV 13 (by decide)
    have e14 : x 14 = (.int .i64 (i)) := hV 14 (by decide)
    have e15 : x 15 = (.int .i64 (-2 * a * i)) := hV 15 (by decide)
    obtain ⟨A16, c16, e16, h16⟩ := hV 16 (by decide)
    obtain ⟨q0, q1⟩ := hS.1.two
    go_simp
    exact hK.out _ _ _ rfl rfl ⟨_, _, rfl, h16⟩ (Below.refl _ _)
  simp only [List.setIfInBounds_toArray, List.set_cons_zero, List.set_cons_succ]
  refine fun w' hS hV => ?_
  have e0 : x 0 = (.agg #[.int .i64 P, .slice A n c]) := hV 0 (by decide)
  have e1 : x 1 = (.int .i64 (P)) := hV 1 (by decide)
  have e2 : x 2 = (.slice Y n cy) := hV 2 (by decide)
  have e3 : x 3 = (.slice U n cu) := hV 3 (by decide)
  have e4 : x 4 = (.agg #[.int .i64 P, .slice A n c]) := hV 4 (by decide)
  have e5 : x 5 = (.slice U n cu) := hV 5 (by decide)
  have e6 : x 6 = (.slice Y n cy) := hV 6 (by decide)
  have e7 : x 7 = (.int .i64 (a)) := hV 7 (by decide)
  have e8 : x 8 = (.int .i64 (-2 * a)) := hV 8 (by decide)
  have e9 : x 9 = (.agg #[.int .i64 P, .slice A n c]) := hV 9 (by decide)
  have e10 : x 10 = (.int .i64 (P)) := hV 10 (by decide)
  have e11 : x 11 = (.agg #[.int .i64 P, .slice A n c]) := hV 11 (by decide)
  have e12 : x 12 = (.slice U n cu) := hV 12 (by decide)
  have e13 : x 13 = (.int .i64 (b)) := hV 13 (by decide)
  have e14 : x 14 = (.int .i64 (i)) := hV 14 (by decide)
  have e15 : x 15 = (.int .i64 (-2 * a * i)) := hV 15 (by decide)
  obtain ⟨A16, c16, e16, h16⟩ := hV 16 (by decide)
  obtain ⟨A17, c17, e17, h17⟩ := hV 17 (by decide)
  simp only [e0, e1, e2, e3, e4, e5, e6, e7, e8, e9, e10, e11, e12, e13, e14, e15, e16, e17]
  clear e0 e1 e2 e3 e4 e5 e6 e7 e8 e9 e10 e11 e12 e13 e14 e15 e16 e17
  refine wpAny_done (by kernel_rfl) ?_ _
  go_wp2
  go_ret
  exact ⟨_, _, rfl, HR.out ▸ h17⟩
end Go.Proofs.YtggigolkncckoaaGreat

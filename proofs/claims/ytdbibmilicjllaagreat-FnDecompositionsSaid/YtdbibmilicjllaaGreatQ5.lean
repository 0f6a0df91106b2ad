/-
  LawFnDecompositions: part 5 of the texts that the proof needs. No condition.
-/
import Derived.Test.YtdbibmilicjllaaGreatQ4
namespace Go.Proofs.YtdbibmilicjllaaGreat
def swn (a b : Nat) : Nat → Nat
  | 0 => 0
  | i + 1 => swn a b i + (if bit b i = 1 then pcn (a / 2 ^ (i + 1)) 6 else 0)
def rvn (k : Nat) : Nat := k * (k - 1) / 2
theorem rev_all : ∀ a : Nat, a < 64 → ∀ b : Nat, b < 64 → (swn a b 6 + swn b a 6 + rvn (pcn a 6) + rvn (pcn b 6) + rvn (pcn (a ^^^ b) 6)) % 2 = 0 := by decide +kernel
theorem swaps_swn {a b : Nat} (ha : a < 64) : ∀ n, swaps a b n = swn a b n := by
  intro n
  induction n with
  | zero => rfl
  | succ n ih =>
    simp only [swaps, swn]
    rw [ih, pc_pcn 6 _ (Nat.lt_of_le_of_lt (Nat.div_le_self _ _) (by simpa using ha))]
theorem bit_high {b n i : Nat} (hb : b < 2 ^ n) (h : n ≤ i) : bit b i = 0 := by
  unfold bit
  rw [Nat.div_eq_of_lt (Nat.lt_of_lt_of_le hb (Nat.pow_le_pow_right (by decide) h))]
theorem swaps_more {a b n : Nat} (hb : b < 2 ^ n) : ∀ k, swaps a b (n + k) = swaps a b n := by
  intro k
  induction k with
  | zero => rfl
  | succ k ih =>
    rw [← Nat.add_assoc]
    simp only [swaps]
    rw [ih, bit_high hb (by omega)]
    rfl
theorem swaps_six {a b n : Nat} (hn : n ≤ 6) (ha : a < pw n) (hb : b < pw n) : swaps a b n = swn a b 6 := by
  have h64 : a < 64 := Nat.lt_of_lt_of_le ha (pw_le (k := 6) hn)
  rw [← swaps_swn h64, show 6 = n + (6 - n) by omega, swaps_more hb]
/-- The sign of a blade when it is reversed, and when it is involuted. -/
def sgR (a : Nat) : Int := if revT (pc a) then -1 else 1
def sgI (a : Nat) : Int := if oddT (pc a) then -1 else 1
theorem sgR_sg (a : Nat) : sgR a = sg (rvn (pc a)) := by
  unfold sgR sg revT rvn
  simp only [beq_iff_eq]
theorem sgI_sg (a : Nat) : sgI a = sg (pc a) := by
  unfold sgI sg oddT
  simp only [beq_iff_eq]
theorem sgI_xor (a b : Nat) : sgI (a ^^^ b) = sgI a * sgI b := by
  rw [sgI_sg, sgI_sg, sgI_sg, ← sg_add]
  exact sg_congr (pc_xor a b)
theorem facZ_rev {sq : List Int} (hn : sq.length ≤ 6) {a b : Nat} (ha : a < pw sq.length) (hb : b < pw sq.length) : sgR (a ^^^ b) * facZ sq a b = sgR b * sgR a * facZ sq b a := by
  have h64 : ∀ {x}, x < pw sq.length → x < 64 := fun h => Nat.lt_of_lt_of_le h (pw_le (k := 6) hn)
  unfold facZ
  rw [comZ_symm sq b a, ← Int.mul_assoc, ← Int.mul_assoc]
  congr 1
  rw [sgR_sg, sgR_sg, sgR_sg, ← sg_add, ← sg_add, ← sg_add]
  apply sg_congr
  rw [swaps_six hn ha hb, swaps_six hn hb ha, pc_pcn 6 a (h64 ha), pc_pcn 6 b (h64 hb), pc_pcn 6 _ (h64 (xor_lt ha hb))]
  have := rev_all a (h64 ha) b (h64 hb)
  omega
section
variable {p : Int} {sq : List Int}
def Cl.rev (x : Cl p sq) : Cl p sq := Cl.of x.pos fun m => sgR m * x.co m
def Cl.invo (x : Cl p sq) : Cl p sq := Cl.of x.pos fun m => sgI m * x.co m
theorem Cl.rev_co (x : Cl p sq) {m : Nat} (hm : m < pw sq.length) : x.rev.co m % p = (sgR m * x.co m) % p := Cl.of_cg _ _ hm
theorem Cl.invo_co (x : Cl p sq) {m : Nat} (hm : m < pw sq.length) : x.invo.co m % p = (sgI m * x.co m) % p := Cl.of_cg _ _ hm
theorem Cl.rev_mul (hn : sq.length ≤ 6) (x y : Cl p sq) : (x * y).rev = y.rev * x.rev := Cl.same fun m hm => by
  rw [Cl.rev_co _ hm, Int.mul_emod, Cl.mul_co _ _ hm, ← Int.mul_emod, Cl.mul_co _ _ hm, mulZ_cg p sq (fun a ha => Cl.rev_co y ha) (fun a ha => Cl.rev_co x ha) hm]
  unfold mulZ
  rw [sumTo_xor (fun a => sgR a * y.co a * (sgR (a ^^^ m) * x.co (a ^^^ m)) * facZ sq a (a ^^^ m)) hm, ← sumTo_mul]
  congr 1
  refine sumTo_congr fun a ha => ?_
  have h := facZ_rev hn ha (xor_lt ha hm)
  rw [xor_self_left] at h
  rw [xor_self_right]
  calc sgR m * (x.co a * y.co (a ^^^ m) * facZ sq a (a ^^^ m)) = x.co a * y.co (a ^^^ m) * (sgR m * facZ sq a (a ^^^ m)) := by rw [Int.mul_left_comm]
    _ = x.co a * y.co (a ^^^ m) * (sgR (a ^^^ m) * sgR a * facZ sq (a ^^^ m) a) := by rw [h]
    _ = _ := by
      rw [← Int.mul_assoc]
      congr 1
      generalize x.co a = X
      generalize y.co (a ^^^ m) = Y
      generalize sgR a = S
      generalize sgR (a ^^^ m) = T
      rw [Int.mul_comm X Y, Int.mul_comm T Y, Int.mul_assoc, Int.mul_assoc, Int.mul_left_comm X, Int.mul_comm X S]
theorem Cl.invo_mul (x y : Cl p sq) : (x * y).invo = x.invo * y.invo := Cl.same fun m hm => by
  rw [Cl.invo_co _ hm, Int.mul_emod, Cl.mul_co _ _ hm, ← Int.mul_emod, Cl.mul_co _ _ hm, mulZ_cg p sq (fun a ha => Cl.invo_co x ha) (fun a ha => Cl.invo_co y ha) hm]
  unfold mulZ
  rw [← sumTo_mul]
  congr 1
  refine sumTo_congr fun a _ => ?_
  have h := sgI_xor a (a ^^^ m)
  rw [xor_self_left] at h
  rw [h]
  show _ = sgI a * x.co a * (sgI (a ^^^ m) * y.co (a ^^^ m)) * _
  generalize x.co a = X
  generalize y.co (a ^^^ m) = Y
  generalize sgI a = S
  generalize sgI (a ^^^ m) = T
  rw [← Int.mul_assoc]
  congr 1
  rw [Int.mul_assoc, Int.mul_assoc, Int.mul_left_comm T]
theorem Cl.one_rev (hp : 0 < p) : (Cl.one hp : Cl p sq).rev = Cl.one hp := Cl.same fun m hm => by
  rw [Cl.rev_co _ hm, Int.mul_emod, Cl.one_co hp hm, ← Int.mul_emod]
  by_cases h : m = 0
  · rw [if_pos h, h]; unfold sgR; rw [pc_zero]; rfl
  · rw [if_neg h, Int.mul_zero]
theorem Cl.one_invo (hp : 0 < p) : (Cl.one hp : Cl p sq).invo = Cl.one hp := Cl.same fun m hm => by
  rw [Cl.invo_co _ hm, Int.mul_emod, Cl.one_co hp hm, ← Int.mul_emod]
  by_cases h : m = 0
  · rw [if_pos h, h]; unfold sgI; rw [pc_zero]; rfl
  · rw [if_neg h, Int.mul_zero]
theorem Cl.sgn_l (x : Cl p sq) (t : Nat → Bool) : (Cl.of x.pos fun m => (if t (pc m) then -1 else 1) * x.co m : Cl p sq).l = sgnL p t x.l := by
  refine list_ext_getD 0 (by rw [Cl.len, sgnL_len, x.len]) fun m hm => ?_
  rw [Cl.len] at hm
  rw [sgnL_getD (by rw [x.len]; exact hm)]
  show (Cl.of _ _ : Cl p sq).co m = _
  rw [Cl.of_co _ _ hm]
  split
  · rw [Int.neg_mul, Int.one_mul]; rfl
  · rw [Int.one_mul, x.co_mod]; rfl
theorem Cl.rev_l (x : Cl p sq) : x.rev.l = revL p x.l := x.sgn_l revT
theorem Cl.invo_l (x : Cl p sq) : x.invo.l = invoL p x.l := x.sgn_l oddT
def Cl.vec (hp : 0 < p) (v : List Int) : Cl p sq := Cl.of hp fun b => sumTo sq.length fun i => if b = 2 ^ i then v.getD i 0 else 0
theorem Cl.vec_co (hp : 0 < p) (v : List Int) {m : Nat} (hm : m < pw sq.length) : (Cl.vec hp v : Cl p sq).co m % p = (sumTo sq.length fun i => if m = 2 ^ i then v.getD i 0 else 0) % p := Cl.of_cg _ _ hm
theorem Cl.vec_l (hp : 0 < p) {v : List Int} (hv : NumsL p v) : (Cl.vec hp v : Cl p sq).l = vecTo sq.length v sq.length := by
  refine list_ext_getD 0 (by rw [Cl.len, vecTo_len]) fun m hm => ?_
  rw [Cl.len] at hm
  rw [vecTo_getD _ hm _ (Nat.le_refl _)]
  show (Cl.vec _ _ : Cl p sq).co m = _
  rw [← Cl.co_mod, Cl.vec_co hp v hm, ← vecTo_getD v hm _ (Nat.le_refl _)]
  have := (vecTo_nums hp sq.length v hv sq.length).getD hp m
  exact Int.emod_eq_of_lt this.1 this.2
theorem pow_inj {i j : Nat} (h : (2 : Nat) ^ i = 2 ^ j) : i = j := (Nat.pow_right_inj (by decide)).1 h
theorem bit_pow (i j : Nat) : bit (2 ^ i) j = if i = j then 1 else 0 := by
  rw [bit_eq, Nat.testBit_two_pow]
  by_cases h : i = j <;> simp [h]
theorem pc_pow (i : Nat) : pc (2 ^ i) = 1 := by
  rw [pc_pcn (i + 1) _ (Nat.pow_lt_pow_right (by decide) (by omega)), pcn, bit_pow, if_pos rfl]
  have : ∀ k, k ≤ i → pcn (2 ^ i) k = 0 := by
    intro k
    induction k with
    | zero => intro _; rfl
    | succ k ih => intro hk; rw [pcn, ih (by omega), bit_pow, if_neg (by omega)]
  rw [this i (Nat.le_refl _)]
theorem swaps_pow (a j : Nat) : ∀ k, swaps a (2 ^ j) k = if j < k then pc (a / 2 ^ (j + 1)) else 0 := by
  intro k
  induction k with
  | zero => rfl
  | succ k ih =>
    simp only [swaps]
    rw [ih, bit_pow]
    by_cases h1 : j = k
    · subst h1; simp
    · by_cases h2 : j < k
      · simp [h1, h2, show j < k + 1 by omega]
      · simp [h1, h2, show ¬ j < k + 1 by omega]
theorem comZ_pow (sq : List Int) (i j : Nat) : ∀ k, comZ sq (2 ^ i) (2 ^ j) k = if i = j ∧ i < k then sq.getD i 0 else 1 := by
  intro k
  induction k with
  | zero => simp [comZ]
  | succ k ih =>
    simp only [comZ]
    rw [ih, bit_pow, bit_pow]
    by_cases h : i = j
    · subst h
      by_cases h1 : i = k
      · subst h1; simp
      · by_cases h2 : i < k
        · simp [h1, h2, show i < k + 1 by omega]
        · simp [h1, h2, show ¬ i < k + 1 by omega]
    · simp only [h, false_and, if_false]
      rw [if_neg, Int.mul_one]
      rintro ⟨h1, h2⟩
      split at h1
      · split at h2
        · omega
        · cases h2
      · cases h1
theorem facZ_same (sq : List Int) {i : Nat} (hi : i < sq.length) : facZ sq (2 ^ i) (2 ^ i) = sq.getD i 0 := by
  unfold facZ
  rw [swaps_pow, if_pos hi, comZ_pow, if_pos ⟨rfl, hi⟩, Nat.div_eq_of_lt (Nat.pow_lt_pow_right (by decide) (by omega)), pc_zero]
  show 1 * _ = _
  rw [Int.one_mul]
theorem facZ_less (sq : List Int) {i j : Nat} (h : i < j) (hj : j < sq.length) : facZ sq (2 ^ i) (2 ^ j) = 1 ∧ facZ sq (2 ^ j) (2 ^ i) = -1 := by
  unfold facZ
  rw [swaps_pow, if_pos hj, comZ_pow, if_neg (by omega), swaps_pow, if_pos (by omega), comZ_pow, if_neg (by omega), Nat.div_eq_of_lt (Nat.pow_lt_pow_right (by decide) (by omega)), pc_zero]
  refine ⟨rfl, ?_⟩
  rw [Nat.pow_div (by omega) (by decide), pc_pow]
  rfl
theorem facZ_both (sq : List Int) {i j : Nat} (hi : i < sq.length) (hj : j < sq.length) : facZ sq (2 ^ i) (2 ^ j) + facZ sq (2 ^ j) (2 ^ i) = if i = j then 2 * sq.getD i 0 else 0 := by
  rcases Nat.lt_trichotomy i j with h | h | h
  · rw [(facZ_less sq h hj).1, (facZ_less sq h hj).2, if_neg (by omega)]; rfl
  · subst h; rw [facZ_same sq hi, if_pos rfl]; omega
  · rw [(facZ_less sq h hi).1, (facZ_less sq h hi).2, if_neg (by omega)]; rfl
/-- The product of two vectors, over the integers. -/
def bil (sq v u : List Int) : Int := sumTo sq.length fun i => v.getD i 0 * u.getD i 0 * sq.getD i 0
theorem bil_symm (sq v u : List Int) : bil sq v u = bil sq u v := sumTo_congr fun i _ => by rw [Int.mul_comm (v.getD i 0)]
/-- The product of vectors, at a place. -/
theorem mulZ_vec (sq u v : List Int) {m : Nat} (hm : m < pw sq.length) :
    mulZ sq (fun b => sumTo sq.length fun i => if b = 2 ^ i then u.getD i 0 else 0) (fun b => sumTo sq.length fun i => if b = 2 ^ i then v.getD i 0 else 0) m
      = sumTo sq.length fun i => sumTo sq.length fun j => if 2 ^ i ^^^ 2 ^ j = m then u.getD i 0 * v.getD j 0 * facZ sq (2 ^ i) (2 ^ j) else 0 := by
  unfold mulZ
  rw [sumTo_congr (g := fun a => sumTo sq.length fun i => if a = 2 ^ i then sumTo sq.length fun j => if 2 ^ i ^^^ 2 ^ j = m then u.getD i 0 * v.getD j 0 * facZ sq (2 ^ i) (2 ^ j) else 0 else 0) fun a ha => ?_, sumTo_comm]
  · refine sumTo_congr fun i hi => ?_
    rw [sumTo_one (2 ^ i) (two_lt hi) fun a _ hne => if_neg hne, if_pos rfl]
  · rw [← sumTo_mul_right, ← sumTo_mul_right]
    refine sumTo_congr fun i _ => ?_
    by_cases h : a = 2 ^ i
    · rw [if_pos h, if_pos h, ← sumTo_mul, ← sumTo_mul_right]
      refine sumTo_congr fun j _ => ?_
      by_cases h2 : 2 ^ i ^^^ 2 ^ j = m
      · rw [if_pos h2, h, if_pos ((xor_eq_iff _ _ _).1 h2).symm, ← (xor_eq_iff _ _ _).1 h2]
      · rw [if_neg h2, h, if_neg (fun e => h2 ((xor_eq_iff _ _ _).2 e.symm)), Int.mul_zero, Int.zero_mul]
    · rw [if_neg h, if_neg h, Int.zero_mul, Int.zero_mul]
/-- Vectors: the sum of both products is twice the number of the product. -/
theorem Cl.vec_anti (hp : 0 < p) (u v : List Int) : (Cl.vec hp u : Cl p sq) * Cl.vec hp v + Cl.vec hp v * Cl.vec hp u = (2 * bil sq u v) * Cl.one hp := Cl.same fun m hm => by
  rw [Cl.add_co _ _ hm, Int.add_emod, Cl.mul_co _ _ hm, Cl.mul_co _ _ hm, mulZ_cg p sq (fun a ha => Cl.vec_co hp u ha) (fun a ha => Cl.vec_co hp v ha) hm,
    mulZ_cg p sq (fun a ha => Cl.vec_co hp v ha) (fun a ha => Cl.vec_co hp u ha) hm, ← Int.add_emod, mulZ_vec sq u v hm, mulZ_vec sq v u hm, Cl.sm_co _ _ hm, Int.mul_emod (2 * _), Cl.one_co hp hm, ← Int.mul_emod]
  congr 1
  rw [sumTo_comm sq.length sq.length (fun i j => if 2 ^ i ^^^ 2 ^ j = m then v.getD i 0 * u.getD j 0 * facZ sq (2 ^ i) (2 ^ j) else 0), ← sumTo_add]
  unfold bil
  rw [← sumTo_mul, ← sumTo_mul_right]
  refine sumTo_congr fun i hi => ?_
  rw [← sumTo_add]
  have key : ∀ j, j < sq.length → ((if 2 ^ i ^^^ 2 ^ j = m then u.getD i 0 * v.getD j 0 * facZ sq (2 ^ i) (2 ^ j) else 0) + if 2 ^ j ^^^ 2 ^ i = m then v.getD j 0 * u.getD i 0 * facZ sq (2 ^ j) (2 ^ i) else 0) = if 2 ^ i ^^^ 2 ^ j = m then u.getD i 0 * v.getD j 0 * (if i = j then 2 * sq.getD i 0 else 0) else 0 := fun j hj => by
    rw [Nat.xor_comm (2 ^ j)]
    by_cases h : 2 ^ i ^^^ 2 ^ j = m
    · rw [if_pos h, if_pos h, if_pos h, Int.mul_comm (v.getD j 0), ← Int.mul_add, facZ_both sq hi hj]
    · rw [if_neg h, if_neg h, if_neg h]; rfl
  rw [sumTo_congr key, sumTo_one i hi fun j _ hne => by
    split
    · rw [if_neg (fun e => hne e.symm), Int.mul_zero]
    · rfl]
  rw [if_pos rfl, Nat.xor_self]
  by_cases h : m = 0
  · rw [if_pos h, if_pos h.symm, Int.mul_one, Int.mul_left_comm]
  · rw [if_neg h, if_neg (fun e => h e.symm), Int.mul_zero]
end
end Go.Proofs.YtdbibmilicjllaaGreat
namespace Go.Proofs.YtdbibmilicjllaaGreat
open Go.RowKit
theorem wedgeL_len (p : Int) (sq xs ys : List Int) : (wedgeL p sq xs ys).length = xs.length := prodL_len _ _ _ _ _
end Go.Proofs.YtdbibmilicjllaaGreat
namespace Go.Proofs.YtdbibmilicjllaaGreat
/-- m after k columns with d rows done; c: the places of the firsts. -/
structure Ech (m : List (List Int)) (k d : Nat) (c : Nat → Nat) : Prop where
  lt : ∀ i, i < d → c i < k
  mono : ∀ i j, i < j → j < d → c i < c j
  one : ∀ i, i < d → ent m i (c i) = 1
  zero : ∀ i, i < d → ∀ r, r < m.length → r ≠ i → ent m r (c i) = 0
  before : ∀ i, i < d → ∀ q, q < c i → ent m i q = 0
  rest : ∀ r, d ≤ r → r < m.length → ∀ q, q < k → ent m r q = 0
theorem ent_set {m : List (List Int)} {d : Nat} {x : List Int} (hd : d < m.length) (r q : Nat) : ent (m.set d x) r q = if r = d then x.getD q 0 else ent m r q := by
  unfold ent
  rw [getD_set]
  by_cases h : r = d
  · rw [if_pos ⟨h.symm, hd⟩, if_pos h]
  · rw [if_neg (fun hh => h hh.1.symm), if_neg h]
theorem ent_swap {m : List (List Int)} {i j : Nat} (hi : i < m.length) (hj : j < m.length) (r q : Nat) : ent (swapL m i j) r q = if r = j then ent m i q else if r = i then ent m j q else ent m r q := by
  unfold swapL
  rw [ent_set (by rw [List.length_set]; exact hj)]
  split
  · rfl
  · rw [ent_set hi]
    split
    · rfl
    · rfl
theorem ent_scaled {p : Int} {m : List (List Int)} {k d v : Nat} (hv : pivOf m k d = v) (hd : d < m.length) (hvl : v < m.length) {n : Nat} (hT : Tab p n m) (r q : Nat) (hq : q < n) :
    ent (scaledAt p m k d) r q = if r = d then ent m v q * invF p (ent m v k) % p else if r = v then ent m d q else ent m r q := by
  unfold scaledAt
  rw [hv, ent_set (by rw [swapL_len]; exact hd)]
  by_cases h : r = d
  · rw [if_pos h, if_pos h, scaleL_getD _ (by rw [(hT.row hvl).1]; exact hq)]; rfl
  · rw [if_neg h, if_neg h, ent_swap hd hvl]
    by_cases h2 : r = v
    · rw [if_pos h2, if_pos h2]
    · rw [if_neg h2, if_neg h2, if_neg h]
theorem ent_cleared {p : Int} {n : Nat} {m : List (List Int)} (hT : Tab p n m) (d k r q : Nat) (hr : r < m.length) (hq : q < n) :
    ent (clearTo p m d k m.length) r q = if r = d then ent m d q else (ent m r q + -(ent m r k) * ent m d q) % p := by
  show ((clearTo p m d k m.length).getD r []).getD q 0 = _
  rw [clearTo_getD hr]
  by_cases h : r = d
  · rw [if_neg (fun hh => hh.2 h), if_pos h, h]; rfl
  · rw [if_pos ⟨hr, h⟩, if_neg h, plusL_getD _ _ (by rw [(hT.row hr).1]; exact hq)]; rfl
theorem Ech.step {p : Int} (hP : isP p = true) {n : Nat} {s : List (List Int) × Nat} {k : Nat} {c : Nat → Nat} (hT : Tab p n s.1) (hd : s.2 ≤ s.1.length) (hk : k < n) (h : Ech s.1 k s.2 c) : ∃ c', Ech (stepB p k s).1 (k + 1) (stepB p k s).2 c' := by
  obtain ⟨m, d⟩ := s
  simp only at hT hd h
  obtain ⟨hb1, hb2⟩ := pivOf_bound m k d hd
  have hp : 2 ≤ p := by have := isP_ge hP; omega
  unfold stepB
  simp only
  by_cases hv : pivOf m k d = m.length
  · rw [if_pos hv]
    refine ⟨c, fun i hi => by have := h.lt i hi; omega, h.mono, h.one, h.zero, h.before, fun r h1 h2 q hq => ?_⟩
    by_cases hqk : q = k
    · subst hqk
      have h2' : r < m.length := h2
      exact piv_before m q (m.length - d) d r h1 (by show r < pivOf m q d; omega)
    · exact h.rest r h1 h2 q (by omega)
  · rw [if_neg hv]
    obtain ⟨v, hvv⟩ : ∃ v, v = pivOf m k d := ⟨_, rfl⟩
    rw [← hvv] at hb1 hb2 hv
    have hvl : v < m.length := by omega
    have hdl : d < m.length := by omega
    have hne : ent m v k ≠ 0 := by rw [hvv]; exact piv_at m k (m.length - d) d (by show pivOf m k d < _; omega)
    have hrange := hT.ent (by omega) v k
    obtain ⟨i1, i2, i3⟩ := inv_spec hP (show 0 < ent m v k by omega) hrange.2
    have hone : ent m v k * invF p (ent m v k) % p = 1 := (i3 _ (by omega) i2).2 rfl
    have hT1 : Tab p n (scaledAt p m k d) := scaledAt_tab (by omega) hT hdl (by omega)
    have hl1 : (scaledAt p m k d).length = m.length := scaledAt_len p m k d
    have e1 := fun r q (hq : q < n) => ent_scaled (p := p) (m := m) (k := k) (d := d) hvv.symm hdl hvl hT r q hq
    have e2 := fun r q (hr : r < m.length) (hq : q < n) => ent_cleared (p := p) hT1 d k r q (by rw [hl1]; exact hr) hq
    rw [hl1] at e2
    have c1 : ∀ i, i < d → c i < n := fun i hi => by have := h.lt i hi; omega
    have z1 : ∀ q, q < k → ent (scaledAt p m k d) d q = 0 := fun q hq => by
      rw [e1 d q (by omega), if_pos rfl, h.rest v hb1 hvl q hq]; simp
    have o1 : ent (scaledAt p m k d) d k = 1 := by rw [e1 d k hk, if_pos rfl, hone]
    refine ⟨fun i => if i = d then k else c i, ?_, ?_, ?_, ?_, ?_, ?_⟩
    · intro i hi
      show (if i = d then k else c i) < k + 1
      split
      · omega
      · have := h.lt i (by omega); omega
    · intro i j hij hj
      show (if i = d then k else c i) < (if j = d then k else c j)
      rw [if_neg (show i ≠ d by omega)]
      split
      · exact h.lt i (by omega)
      · exact h.mono i j hij (by omega)
    · intro i hi
      show ent _ i (if i = d then k else c i) = 1
      by_cases hid : i = d
      · rw [if_pos hid, e2 i k (by omega) hk, if_pos hid, o1]
      · have hi' : i < d := by omega
        rw [if_neg hid, e2 i _ (by omega) (c1 i hi'), if_neg hid, z1 _ (h.lt i hi'), e1 i _ (c1 i hi'), if_neg hid, if_neg (show i ≠ v by omega), h.one i hi', Int.mul_zero]
        exact Int.emod_eq_of_lt (by omega) (by omega)
    · intro i hi r hr hri
      rw [clearTo_len, hl1] at hr
      show ent _ r (if i = d then k else c i) = 0
      by_cases hid : i = d
      · rw [if_pos hid, e2 r k hr hk, if_neg (fun e => hri (e.trans hid.symm)), o1, Int.mul_one]
        rw [Int.add_right_neg]; simp
      · have hi' : i < d := by omega
        rw [if_neg hid, e2 r _ hr (c1 i hi')]
        by_cases hrd : r = d
        · rw [if_pos hrd]; exact z1 _ (h.lt i hi')
        · rw [if_neg hrd, z1 _ (h.lt i hi'), e1 r _ (c1 i hi'), if_neg hrd]
          by_cases hrv : r = v
          · rw [if_pos hrv, h.zero i hi' d hdl (by omega)]; simp
          · rw [if_neg hrv, h.zero i hi' r hr hri]; simp
    · intro i hi q hq
      by_cases hid : i = d
      · have hq' : q < k := by simpa [hid] using hq
        rw [e2 i q (by omega) (by omega), if_pos hid]
        exact z1 q hq'
      · have hq' : q < c i := by simpa [hid] using hq
        have hi' : i < d := by omega
        have := h.lt i hi'
        rw [e2 i q (by omega) (by omega), if_neg hid, z1 q (by omega), e1 i q (by omega), if_neg hid, if_neg (show i ≠ v by omega), h.before i hi' q hq']
        simp
    · intro r h1 h2 q hq
      rw [clearTo_len, hl1] at h2
      rw [e2 r q h2 (by omega), if_neg (show r ≠ d by simp only at h1; omega)]
      by_cases hqk : q = k
      · subst hqk
        rw [o1, Int.mul_one, Int.add_right_neg]; simp
      · have hq' : q < k := by omega
        have h1' : d + 1 ≤ r := h1
        rw [z1 q hq', e1 r q (by omega), if_neg (show r ≠ d by omega)]
        by_cases hrv : r = v
        · rw [if_pos hrv, h.rest d (Nat.le_refl _) hdl q hq']; simp
        · rw [if_neg hrv, h.rest r (by omega) h2 q hq']; simp
theorem Ech.start (m : List (List Int)) (c : Nat → Nat) : Ech m 0 0 c := ⟨fun i hi => absurd hi (by omega), fun i j _ hj => absurd hj (by omega), fun i hi => absurd hi (by omega), fun i hi => absurd hi (by omega), fun i hi => absurd hi (by omega), fun _ _ _ q hq => absurd hq (by omega)⟩
theorem basisTo_ech {p : Int} (hP : isP p = true) {n : Nat} (m : List (List Int)) (hT : Tab p n m) (k : Nat) (hk : k ≤ n) : ∃ c, Ech (basisTo p m k).1 k (basisTo p m k).2 c := by
  have hp : 2 ≤ p := by have := isP_ge hP; omega
  induction k with
  | zero => exact ⟨fun _ => 0, Ech.start _ _⟩
  | succ k ih =>
    obtain ⟨c, hc⟩ := ih (by omega)
    obtain ⟨h1, h2, h3⟩ := basisTo_inv (by omega) m hT k
    exact hc.step hP h1 (by omega) (by omega)
/-- The place of the first number of row i. -/
def ld (B : List (List Int)) (i : Nat) : Nat := leadL (B.getD i [])
/-- A reduced basis of lists of n numbers. -/
structure Red (n : Nat) (B : List (List Int)) : Prop where
  lt : ∀ i, i < B.length → ld B i < n
  one : ∀ i, i < B.length → ent B i (ld B i) = 1
  zero : ∀ i r, i < B.length → r < B.length → r ≠ i → ent B r (ld B i) = 0
  mono : ∀ i j, i < j → j < B.length → ld B i < ld B j
theorem Red.before {n : Nat} {B : List (List Int)} (_h : Red n B) (i q : Nat) (hq : q < ld B i) : ent B i q = 0 := leadL_before _ q hq
theorem Red.inj {n : Nat} {B : List (List Int)} (h : Red n B) {i j : Nat} (hi : i < B.length) (hj : j < B.length) (e : ld B i = ld B j) : i = j := by
  rcases Nat.lt_trichotomy i j with hl | hl | hl
  · have := h.mono i j hl hj; omega
  · exact hl
  · have := h.mono j i hl hi; omega
theorem Red.nil (n : Nat) : Red n [] := ⟨fun i hi => absurd hi (by simp), fun i hi => absurd hi (by simp), fun i r hi => absurd hi (by simp), fun i j _ hj => absurd hj (by simp)⟩
theorem row0_len {p : Int} {n : Nat} {m : List (List Int)} (hT : Tab p n m) (h0 : 0 < m.length) : (m.getD 0 []).length = n := (hT.row h0).1
theorem basisL_nil (p : Int) : basisL p [] = [] := by unfold basisL; simp [basisTo]
theorem basisL_red {p : Int} (hP : isP p = true) {n : Nat} (m : List (List Int)) (hT : Tab p n m) : Red n (basisL p m) := by
  have hp : 2 ≤ p := by have := isP_ge hP; omega
  by_cases h0 : 0 < m.length
  · have hl := row0_len hT h0
    obtain ⟨c, hc⟩ := basisTo_ech hP m hT n (Nat.le_refl _)
    obtain ⟨h1, h2, h3⟩ := basisTo_inv (p := p) (by omega) m hT n
    have hlen := (basisL_len (p := p) (by omega) m hT).1
    rw [hl] at hlen
    have hg : ∀ i, i < (basisL p m).length → (basisL p m).getD i [] = (basisTo p m n).1.getD i [] := fun i hi => by
      have hi2 : i < (basisTo p m n).1.length := by omega
      have e : basisL p m = (basisTo p m n).1.take (basisTo p m n).2 := by unfold basisL; rw [hl]
      rw [getD_of_lt [] hi, getD_of_lt [] hi2]
      simp only [e, List.getElem_take]
    have he : ∀ i q, i < (basisL p m).length → ent (basisL p m) i q = ent (basisTo p m n).1 i q := fun i q hi => by unfold ent; rw [hg i hi]
    have hld : ∀ i, i < (basisL p m).length → ld (basisL p m) i = c i := fun i hi => by
      have hi' : i < (basisTo p m n).2 := by omega
      have hr := (h1.row (show i < (basisTo p m n).1.length by omega)).1
      unfold ld
      rw [hg i hi]
      refine leadL_eq _ _ (fun j hj => hc.before i hi' j hj) (.inr ⟨by rw [hr]; exact hc.lt i hi', ?_⟩)
      have := hc.one i hi'
      unfold ent at this
      rw [this]; omega
    refine ⟨fun i hi => ?_, fun i hi => ?_, fun i r hi hr hri => ?_, fun i j hij hj => ?_⟩
    · rw [hld i hi]; exact hc.lt i (by omega)
    · rw [hld i hi, he i _ hi]; exact hc.one i (by omega)
    · rw [hld i hi, he r _ hr]; exact hc.zero i (by omega) r (by omega) hri
    · rw [hld i (by omega), hld j hj]; exact hc.mono i j hij (by omega)
  · obtain rfl : m = [] := List.eq_nil_of_length_eq_zero (by omega)
    rw [basisL_nil]
    exact Red.nil n
/-- The row that has its first number at place k. -/
def ldIdx (B : List (List Int)) (k : Nat) : Option Nat := (List.range B.length).find? fun i => ld B i == k
def isLd (B : List (List Int)) (k : Nat) : Bool := (List.range B.length).any fun i => ld B i == k
theorem ldIdx_some {n : Nat} {B : List (List Int)} (h : Red n B) {i : Nat} (hi : i < B.length) : ldIdx B (ld B i) = some i := by
  unfold ldIdx
  cases e : (List.range B.length).find? fun j => ld B j == ld B i with
  | none =>
    have := List.find?_eq_none.1 e i (by simpa using hi)
    simp at this
  | some j =>
    have h1 := List.find?_some e
    have h2 := List.mem_of_find?_eq_some e
    have hji : j = i := h.inj (by simpa using h2) hi (by simpa using h1)
    rw [hji]
theorem ldIdx_none {B : List (List Int)} {k : Nat} (h : isLd B k = false) : ldIdx B k = none := by
  unfold ldIdx
  rw [List.find?_eq_none]
  intro i hi
  have := List.any_eq_false.1 h i hi
  exact this
theorem isLd_iff {B : List (List Int)} {k : Nat} : isLd B k = true ↔ ∃ i, i < B.length ∧ ld B i = k := by
  unfold isLd
  rw [List.any_eq_true]
  constructor
  · rintro ⟨i, hi, e⟩; exact ⟨i, by simpa using hi, by simpa using e⟩
  · rintro ⟨i, hi, e⟩; exact ⟨i, by simpa using hi, by simpa using e⟩
/-- The vector of the kernel that is 1 at the free place f: what is not left over is set. -/
def freePart (p : Int) (B : List (List Int)) (n f : Nat) (left : Nat → Bool) : List Int :=
  tab n fun k => if k = f then 1 else if left k then 0 else match ldIdx B k with | some i => (-(ent B i f)) % p | none => 0
def freeRow (p : Int) (B : List (List Int)) (n f : Nat) : List Int := freePart p B n f fun _ => false
end Go.Proofs.YtdbibmilicjllaaGreat
namespace Go.Proofs.YtdbibmilicjllaaGreat
open Go.RowKit
theorem Nest.setNew {w1 w2 : World} {B : Nat} {rows : List Value} {xss : List (List Int)} {A : Option Addr} {n c : Nat} {xs : List Int} (h : Nest w1 B rows xss) (hr : Mk w1 w2 2 A n c (ints xs)) (hB : B ≤ w1.heap.size) (k : Nat) :
    Nest w2 B (rows.set k (.slice A n c)) (xss.set k xs) := by
  have hn : xs.length = n := by have := hr.2.len; rwa [ints_length] at this
  subst hn
  have hnew : ∀ g, (Value.slice A xs.length c).ownBlock = some g → w1.heap.size ≤ g := fun g hg => (World.ownsRow.lt hr.2 g hg).1
  refine ⟨by simp [h.len], fun j hj => ?_, fun i j g hij hi => ?_⟩
  · have hj' : j < xss.length := by simpa using hj
    by_cases hk : k = j
    · subst hk
      rw [List.getElem_set_self]
      exact ⟨A, c, by rw [List.getElem?_set_self (by rw [h.len]; exact hj')], hr.2.base hB⟩
    · obtain ⟨A', c', e, ho⟩ := h.row j hj'
      rw [List.getElem_set_ne hk]
      exact ⟨A', c', by rw [List.getElem?_set_ne hk]; exact e, ho.below hr.1⟩
  · rw [List.getElem?_set] at hi ⊢
    by_cases hki : k = i
    · subst hki
      rw [if_pos rfl] at hi
      rw [if_neg (by omega)]
      split at hi
      · intro hj
        have h1 := (h.block j g hj).2
        have h2 := hnew g (by simpa using hi)
        omega
      · simp at hi
    · rw [if_neg hki] at hi
      have hgi := (h.block i g hi).2
      by_cases hkj : k = j
      · rw [if_pos hkj]
        split
        · intro hj
          have h2 := hnew g (by simpa using hj)
          omega
        · simp
      · rw [if_neg hkj]
        exact h.apart i j g hij hi
theorem Nest.apart_ne {w : World} {B : Nat} {rows : List Value} {xss : List (List Int)} (h : Nest w B rows xss) (i j g : Nat) (hij : i ≠ j) (hi : (rows[i]?).bind Value.ownBlock = some g) : (rows[j]?).bind Value.ownBlock ≠ some g := by
  rcases Nat.lt_or_gt_of_ne hij with hlt | hgt
  · exact h.apart i j g hlt hi
  · intro hj
    exact h.apart j i g hgt hj hi
/-- The rows in another order. -/
theorem Nest.moved {w : World} {B : Nat} {rows rows' : List Value} {xss xss' : List (List Int)} (h : Nest w B rows xss) (s : Nat → Nat) (hs : ∀ i j, i ≠ j → s i ≠ s j) (hl : rows'.length = xss'.length) (hr : ∀ k, rows'[k]? = rows[s k]?) (hx : ∀ k, xss'[k]? = xss[s k]?) : Nest w B rows' xss' := by
  refine ⟨hl, fun k hk => ?_, fun i j g hij hi => ?_⟩
  · have e := hx k
    rw [List.getElem?_eq_getElem hk] at e
    obtain ⟨hk', e'⟩ := List.getElem?_eq_some_iff.1 e.symm
    obtain ⟨A, c, er, ho⟩ := h.row (s k) hk'
    rw [e'] at er ho
    exact ⟨A, c, by rw [hr k, er], ho⟩
  · rw [hr] at hi ⊢
    exact h.apart_ne _ _ _ (hs i j (by omega)) hi
theorem swapL_get? (m : List (List Int)) {i j : Nat} (hi : i < m.length) (hj : j < m.length) (k : Nat) : (swapL m i j)[k]? = m[if k = j then i else if k = i then j else k]? := by
  unfold swapL
  rw [List.getElem?_set, List.getElem?_set]
  by_cases h1 : j = k
  · subst h1
    rw [if_pos rfl, if_pos rfl, List.length_set, if_pos hj, getD_of_lt [] hi, List.getElem?_eq_getElem hi]
  · have h1' : ¬ k = j := fun e => h1 e.symm
    rw [if_neg h1, if_neg h1']
    by_cases h2 : i = k
    · subst h2
      rw [if_pos rfl, if_pos rfl, if_pos hi, getD_of_lt [] hj, List.getElem?_eq_getElem hj]
    · have h2' : ¬ k = i := fun e => h2 e.symm
      rw [if_neg h2, if_neg h2']
theorem swapV_get? (m : List Value) {i j : Nat} {ri rj : Value} (hi : m[i]? = some ri) (hj : m[j]? = some rj) (k : Nat) : ((m.set i rj).set j ri)[k]? = m[if k = j then i else if k = i then j else k]? := by
  have hil := (List.getElem?_eq_some_iff.1 hi).1
  have hjl := (List.getElem?_eq_some_iff.1 hj).1
  rw [List.getElem?_set, List.getElem?_set]
  by_cases h1 : j = k
  · subst h1
    rw [if_pos rfl, if_pos rfl, List.length_set, if_pos hjl, hi]
  · have h1' : ¬ k = j := fun e => h1 e.symm
    rw [if_neg h1, if_neg h1']
    by_cases h2 : i = k
    · subst h2
      rw [if_pos rfl, if_pos rfl, if_pos hil, hj]
    · have h2' : ¬ k = i := fun e => h2 e.symm
      rw [if_neg h2, if_neg h2']
theorem Nest.swap {w : World} {B : Nat} {rows : List Value} {xss : List (List Int)} (h : Nest w B rows xss) {i j : Nat} {ri rj : Value} (hi : rows[i]? = some ri) (hj : rows[j]? = some rj) : Nest w B ((rows.set i rj).set j ri) (swapL xss i j) := by
  have hil := (List.getElem?_eq_some_iff.1 hi).1
  have hjl := (List.getElem?_eq_some_iff.1 hj).1
  rw [h.len] at hil hjl
  refine h.moved (fun k => if k = j then i else if k = i then j else k) (fun a b hab => ?_) (by simp [swapL, h.len]) (swapV_get? rows hi hj) (swapL_get? xss hil hjl)
  show (if a = j then i else if a = i then j else a) ≠ (if b = j then i else if b = i then j else b)
  split <;> split <;> (try split) <;> (try split) <;> omega
section
variable {w0 w w1 w2 : World} {g n c : Nat} {xss : List (List Int)}
/-- Rows exchanged. -/
theorem MkII.swap (h : MkII w0 w (some ⟨g, 0, none⟩) n c xss) {i j : Nat} (hi : i < n) (hj : j < n) {ri rj : Value} (ci : w.cell? ⟨g, i, none⟩ = some ri) (cj : w.cell? ⟨g, j, none⟩ = some rj) :
    MkII w0 ((w.setCell ⟨g, i, none⟩ rj).setCell ⟨g, j, none⟩ ri) (some ⟨g, 0, none⟩) n c (swapL xss i j) := by
  obtain ⟨rows, hm, hn⟩ := h
  have ei : rows[i]? = some ri := by
    obtain ⟨u, hu, hc⟩ := hm.2.cell_ hi
    rw [hu, ← ci, hc]
  have ej : rows[j]? = some rj := by
    obtain ⟨u, hu, hc⟩ := hm.2.cell_ hj
    rw [hu, ← cj, hc]
  obtain ⟨m1, g1⟩ := hm.set i rj
  obtain ⟨m2, g2⟩ := m1.set j ri
  exact ⟨_, m2, ((hn.grown hm.2 (by decide) g1).grown m1.2 (by decide) g2).swap ei ej⟩
/-- A row replaced by a new one. -/
theorem MkII.setRow (h : MkII w0 w1 (some ⟨g, 0, none⟩) n c xss) {A1 : Option Addr} {m c1 : Nat} {xs : List Int} (hr : Mk w1 w2 2 A1 m c1 (ints xs)) (k : Nat) :
    MkII w0 (w2.setCell ⟨g, k, none⟩ (.slice A1 m c1)) (some ⟨g, 0, none⟩) n c (xss.set k xs) := by
  obtain ⟨rows, hm, hn⟩ := h
  have hm2 := hm.below hr.1
  obtain ⟨m1, g1⟩ := hm2.set k (.slice A1 m c1)
  exact ⟨_, m1, (hn.setNew hr hm.1.size k).grown hm2.2 (by decide) g1⟩
theorem MkII.frozen_ (h : MkII w0 w (some ⟨g, 0, none⟩) n c xss) (k : Nat) : w.frozen? ⟨g, k, none⟩ = false := by
  obtain ⟨rows, hm, _⟩ := h
  exact hm.2.frozen_ k
theorem MkII.cellSet (h : MkII w0 w (some ⟨g, 0, none⟩) n c xss) (k : Nat) {A1 : Option Addr} {m c1 : Nat} {j : Nat} (hj : j < n) : ∃ v, (w.setCell ⟨g, k, none⟩ (.slice A1 m c1)).cell? ⟨g, j, none⟩ = some v := by
  obtain ⟨rows, hm, _⟩ := h
  obtain ⟨m1, _⟩ := hm.set k (.slice A1 m c1)
  obtain ⟨v, _, hv⟩ := m1.2.cell_ hj
  exact ⟨v, hv⟩
end
theorem ent_at {M : List (List Int)} {i k : Nat} (hi : i < M.length) (hk : k < M[i].length) : ent M i k = M[i][k] := by
  unfold ent
  rw [getD_of_lt [] hi, getD_of_lt 0 hk]
theorem Own.keep {w w' : World} {B : Nat} {E : TypeId} {A : Option Addr} {n c : Nat} {us : List Value} (h : Own w B E A n c us) (hk : ∀ b, B ≤ b → b < w.heap.size → w'.heap[b]? = w.heap[b]?) : Rd w' A n us := by
  refine ⟨h.len, fun hn => ?_⟩
  rcases h.form with ⟨_, h0⟩ | ⟨g, rfl, hg, hg2⟩
  · omega
  · obtain ⟨g', o, e, hc⟩ := h.rd.2 hn
    refine ⟨g', o, e, fun k u hu => ?_⟩
    injection e with e
    injection e with e1 _ _
    subst e1
    exact (World.cell?_of_block (hk g hg hg2)).trans (hc k u hu)
theorem MkII.keep {w0 w w' : World} {A : Option Addr} {n c : Nat} {xss : List (List Int)} (h : MkII w0 w A n c xss) (hk : ∀ b, w0.heap.size ≤ b → b < w.heap.size → w'.heap[b]? = w.heap[b]?) : RdII w' A n xss := by
  obtain ⟨rows, hm, hn⟩ := h
  exact ⟨rows, hm.2.keep hk, hn.len, fun k hk' => by obtain ⟨A', c', e, ho⟩ := hn.row k hk'; exact ⟨A', c', e, ho.keep hk, ho.cap⟩⟩
/-- A new row is appended: what else is said of memory, too. -/
theorem wpList_appRowG {ops : Array Oper} {rest : List Oper} {o : Oper} {a : Act} {Q : Exit → Act → World → Prop} (w0 wr w1 : World)
    (hgd : o.guard = none) (s x : Operand) (ho : o.op = .call { callee := .builtin .append, args := #[s, x], argTypes := #[27, 27] })
    (A : Option Addr) (n c : Nat) (xss : List (List Int)) (A1 : Option Addr) (m c1 : Nat) (xs : List Int) (hM : MkII w0 wr A n c xss) (hr : Mk wr w1 2 A1 m c1 (ints xs)) (hn : n ≤ 1099511627776)
    (hs : a.eval s = .slice A n c) (hx : a.eval x = .slice (some ⟨w1.heap.size, 0, none⟩) 1 1)
    (h : ∀ A' c' w', MkII w0 w' A' (n + 1) c' (xss ++ [xs]) → w1.grownBy w' (Value.slice A n c).ownBlock → (∃ g, A' = some ⟨g, 0, none⟩ ∧ ((Value.slice A n c).ownBlock = some g ∨ w1.heap.size ≤ g)) → wpList Tryz.prog ops Q rest (a.put o.dst (.slice A' (n + 1) c')) w') :
    wpList Tryz.prog ops Q (o :: rest) a (w1.alloc (.cells #[.slice A1 m c1] 24)) := by
  obtain ⟨rows, hm, hnest⟩ := hM
  have hm1 := hm.below hr.1
  have hn1 := hnest.snoc hr hm.1.size
  refine wpList_app1 w0 w1 27 24 (.slice none 0 0) 24 Tryz.underlying27 info_s rfl (by omega) hgd s x ho A n c rows (.slice A1 m c1) hm1 hn rfl hs hx ?_
  intro A' c' w' hM' hg hat
  exact h A' c' w' ⟨_, hM', hn1.grown hm1.2 (by decide) hg⟩ hg hat
/-- What is kept of the blocks between two sizes, and where a list lies that grows. -/
def Keeps (w2 w3 wr : World) (v : Value) : Prop := w3.heap.size ≤ wr.heap.size ∧ (∀ b, w2.heap.size ≤ b → b < w3.heap.size → wr.heap[b]? = w3.heap[b]?) ∧ ∀ gb, v.ownBlock = some gb → gb < w2.heap.size ∨ w3.heap.size ≤ gb
theorem lt_of_own {g gb k n c : Nat} (e : (Value.slice (some ⟨g, 0, none⟩) n c).ownBlock = some gb) (h : g < k) : gb < k := by
  have : g = gb := by simpa [Value.ownBlock] using e
  omega
theorem Keeps.step {w2 w3 wr w5 w6 : World} {A A' : Option Addr} {n c c' n' : Nat} (h : Keeps w2 w3 wr (.slice A n c)) (hb : Below wr.heap.size wr w5) (hg : w5.grownBy w6 (Value.slice A n c).ownBlock)
    (hat : ∃ g, A' = some ⟨g, 0, none⟩ ∧ ((Value.slice A n c).ownBlock = some g ∨ w5.heap.size ≤ g)) : Keeps w2 w3 w6 (.slice A' n' c') := by
  obtain ⟨h1, h2, h3⟩ := h
  have s1 := hb.size
  have s2 := hg.size
  refine ⟨by omega, fun b hb1 hb2 => ?_, fun gb hgb => ?_⟩
  · rw [hg.block b (by omega) (fun e => ?_), hb.block b (by omega), h2 b hb1 hb2]
    rcases h3 b e.symm with h | h <;> omega
  · obtain ⟨g, rfl, hor⟩ := hat
    have : g = gb := by simpa [Value.ownBlock] using hgb
    subst this
    rcases hor with he | he
    · exact h3 g he
    · right; omega
theorem MkII.ne_blk {w0 w : World} {A : Option Addr} {n c g : Nat} {xss : List (List Int)} {t : TypeId} {cs : Array Value} (h : MkII w0 w A n c xss) (hb : Blk w g t cs) (hE : 24 ≠ t) : some g ≠ (Value.slice A n c).ownBlock := by
  obtain ⟨rows, hm, _⟩ := h
  exact hm.2.ne_blk hb hE
theorem RdII.row0 {w : World} {g o n : Nat} {M : List (List Int)} {p : Int} {m : Nat} (h : RdII w (some ⟨g, o, none⟩) n M) (h0 : 0 < n) (hT : Tab p m M) : ∃ A0 c0, w.cell? ⟨g, o, none⟩ = some (.slice A0 m c0) := by
  obtain ⟨g', o', e', hx0, A0, c0, hc, _, _⟩ := h.at_ h0
  injection e' with e'
  injection e' with e1 e2 _
  subst e1; subst e2
  refine ⟨A0, c0, ?_⟩
  rw [Nat.add_zero] at hc
  rw [hc, (hT M[0] (List.getElem_mem hx0)).1]
end Go.Proofs.YtdbibmilicjllaaGreat
namespace Go.Proofs.YtdbibmilicjllaaGreat
open Go.RowKit
theorem ent_at' {M : List (List Int)} {i k : Nat} (hi : i < M.length) (hk : k < M[i].length) : ent M i k = M[i][k] := by
  unfold ent
  rw [getD_of_lt [] hi, getD_of_lt 0 hk]
theorem i64_small {x : Int} (h1 : -1000000 ≤ x) (h2 : x ≤ 1000000) : IntKind.i64.wrap x = x := i64_fit x (by omega) (by omega)
set_option maxRecDepth 8000 in
set_option maxHeartbeats 400000 in
set_option maxRecDepth 8000 in
theorem l01Own_any (A : Option Addr) (n c : Nat) (xs : List Int) (w : World) (hn : n ≤ 65536) (ha : Rd w A n (ints xs)) :
    Calls Tryz.prog 177 #[.slice A n c] w fun e w' => ∃ A' c', e = .returned (.slice A' n c') ∧ MkI w w' A' n c' xs := by
  have hxl : xs.length = n := by have := ha.1; rwa [ints_length] at this
  have hM0 := Mk.lit (E := 2) (Below.refl w.heap.size w) #[] (by simp)
  obtain ⟨i, hi, h1, h2, h3⟩ := info_parts info_i
  obtain ⟨b1, b2⟩ := bound_of (Nat.le_trans hn (by decide))
  clear b1
  have HB := Lib.hid b2
  clear b2
  obtain ⟨p, hnews⟩ : ∃ p : Addr, (∀ (j : Nat) (u : Value), (ints xs)[j]? = some u → (w.alloc (.cells #[] 2)).cell? (p.add j) = some u) ∧ (A = some p ∨ (A = none ∧ n = 0)) := by
    cases A with
    | none =>
      have h0 : n = 0 := by
        rcases Nat.eq_zero_or_pos n with h | h
        · exact h
        · obtain ⟨g, o, e, _⟩ := ha.2 h; cases e
      exact ⟨⟨0, 0, none⟩, fun j u hu => by have := (List.getElem?_eq_some_iff.1 hu).1; rw [ints_length] at this; omega, .inr ⟨rfl, h0⟩⟩
    | some p =>
      refine ⟨p, fun j u hu => ?_, .inl rfl⟩
      have hj : j < n := by have := (List.getElem?_eq_some_iff.1 hu).1; rw [ints_length] at this; omega
      obtain ⟨g, o, e, hc⟩ := (ha.below ((Below.refl _ w).alloc (Nat.le_refl _) (.cells #[] 2))).2 (by omega)
      injection e with e; subst e
      rw [Addr.add_lit]
      exact hc j u hu
  have Hx := Lib.hid hxl
  have HI := Lib.hid hi
  have H1 := Lib.hid h1
  have H2 := Lib.hid h2
  have H3 := Lib.hid h3
  have HN := Lib.hid hnews.1
  have hA := hnews.2
  clear hnews hi h1 h2 h3 hxl
  rcases hA with rfl | ⟨rfl, rfl⟩
  · go_enter Tryz.func177, Tryz.ntmps177
    go_wp2_with (at_builtin; refine wpList_append_own_at (w.alloc (.cells #[] 2)) rfl _ _ 24 rfl w.heap.size 2 i _ 1 8 Tryz.underlying24 HI.out H1.out H2.out H3.out rfl (by omega) (.slice (some ⟨w.heap.size, 0, none⟩) 0 0) 0 [] rfl hM0.2 p n c (ints xs) rfl (by rw [ints_length, Hx.out, Nat.mul_one]) HN.out (by intro u hu; obtain ⟨y, _, rfl⟩ := List.mem_map.1 hu; rfl) (by simp only [maxLen]; omega) (by have := HB.out 8 (by omega); omega) (by simp) ?_; intro v' w' hown hg _ _)
    have hb' : Below w.heap.size w w' := hM0.1.grown hg (by simp) (fun k hk => (hM0.2.lt k hk).1)
    rw [Nat.zero_add, List.nil_append] at hown
    rcases hown.2 with ⟨rfl, h0⟩ | ⟨g, cap, cur, rfl, hr⟩
    · subst h0
      go_ret
      exact ⟨none, 0, rfl, hb', hown⟩
    · go_ret
      exact ⟨_, _, rfl, hb', hown⟩
  · have hxs : xs = [] := List.eq_nil_of_length_eq_zero Hx.out
    subst hxs
    go_enter Tryz.func177, Tryz.ntmps177
    go_wp2
    go_ret
    exact ⟨_, _, rfl, hM0⟩
set_option maxHeartbeats 1600000 in
set_option maxRecDepth 8000 in
theorem cloneRows_any (p : Int) (A : Option Addr) (n c : Nat) (M : List (List Int)) (m : Nat) (w : World) (hn : n ≤ 65536) (hm : m ≤ 65536) (ha : RdII w A n M) (hT : Tab p m M) :
    Calls Tryz.prog 186 #[.slice A n c] w fun e w' => ∃ A' c', e = .returned (.slice A' n c') ∧ MkII w w' A' n c' M := by
  have hML := ha.len
  have HT := Lib.hid hT
  have HML := Lib.hid hML
  have hM0 : MkII w (w.alloc (.cells #[] 24)) (some ⟨w.heap.size, 0, none⟩) 0 0 [] := MkII.empty (Below.refl _ _)
  clear hT hML
  go_enter Tryz.func186, Tryz.ntmps186
  go_wp2
  obtain ⟨w1, hw1⟩ : ∃ W, W = w.alloc (.cells #[] 24) := ⟨_, rfl⟩
  rw [← hw1] at hM0 ⊢
  clear hw1
  go_loopw [3, 5, 9] (fun out _ i wr => ∃ (k : Nat) (A' : Option Addr) (c' : Nat), k ≤ n ∧ i = .int .i64 k ∧ out = .slice A' k c' ∧ MkII w wr A' k c' (M.take k)) (fun _ _ i _ => n - (intOf i).toNat)
  case atStart => exact ⟨0, _, _, by omega, rfl, rfl, by simpa using hM0⟩
  case round =>
    obtain ⟨k, A', c', hk, rfl, rfl, hM⟩ := hrel
    clear hM0
    by_cases hlt : k < n
    · obtain ⟨g, o, rfl, hxk, A1, c1, hcx, hr1, _⟩ := (ha.below hM.b).at_ hlt
      have hl1 : M[k].length = m := (HT.out M[k] (List.getElem_mem hxk)).1
      rw [hl1] at hcx hr1
      have hcall := clone_any A1 m c1 M[k] wr hm hr1
      have HV : Hid (M.take (k + 1) = M.take k ++ [M[k]]) := Lib.hid (List.take_succ_eq_append_getElem hxk)
      have HM := Lib.hid hM
      clear hM hr1 hl1 ha
      go_wp2_with fail
      refine hcall.mono ?_
      rintro e w5 ⟨A5, c5, rfl, hM5⟩
      clear hcall
      go_wp2_with (at_builtin; refine wpList_appRow w wr _ rfl _ _ rfl A' k c' _ A5 m c5 _ HM.out hM5 (by omega) rfl ?_ ?_; (go_simp); intro A6 c6 w6 hM6)
      go_roundw
      case rel => exact ⟨k + 1, A6, c6, by omega, by go_num, rfl, by rw [HV.out]; exact hM6⟩
      case measure => simp [intOf]; omega
    · obtain rfl : k = n := by omega
      go_wp2
      go_ret
      rw [List.take_of_length_le (by rw [HML.out]; exact Nat.le_refl _)] at hM
      exact ⟨_, _, rfl, hM⟩
set_option maxHeartbeats 1600000 in
set_option maxRecDepth 8000 in
theorem l01Own2_any (p : Int) (A : Option Addr) (n c : Nat) (M : List (List Int)) (m : Nat) (w : World) (hn : n ≤ 65536) (hm : m ≤ 65536) (ha : RdII w A n M) (hT : Tab p m M) :
    Calls Tryz.prog 249 #[.slice A n c] w fun e w' => ∃ A' c', e = .returned (.slice A' n c') ∧ MkII w w' A' n c' M := by
  have hML := ha.len
  have HT := Lib.hid hT
  have HML := Lib.hid hML
  have hM0 : MkII w (w.alloc (.cells #[] 24)) (some ⟨w.heap.size, 0, none⟩) 0 0 [] := MkII.empty (Below.refl _ _)
  clear hT hML
  go_enter Tryz.func249, Tryz.ntmps249
  go_wp2
  obtain ⟨w1, hw1⟩ : ∃ W, W = w.alloc (.cells #[] 24) := ⟨_, rfl⟩
  rw [← hw1] at hM0 ⊢
  clear hw1
  go_loopw [3, 4] (fun out i wr => ∃ (k : Nat) (A' : Option Addr) (c' : Nat), k ≤ n ∧ i = .int .i64 k ∧ out = .slice A' k c' ∧ MkII w wr A' k c' (M.take k)) (fun _ i _ => n - (intOf i).toNat)
  case atStart => exact ⟨0, _, _, by omega, rfl, rfl, by simpa using hM0⟩
  case round =>
    obtain ⟨k, A', c', hk, rfl, rfl, hM⟩ := hrel
    clear hM0
    by_cases hlt : k < n
    · obtain ⟨g, o, rfl, hxk, A1, c1, hcx, hr1, _⟩ := (ha.below hM.b).at_ hlt
      have hl1 : M[k].length = m := (HT.out M[k] (List.getElem_mem hxk)).1
      rw [hl1] at hcx hr1
      have hcall := l01Own_any A1 m c1 M[k] wr hm hr1
      have HV : Hid (M.take (k + 1) = M.take k ++ [M[k]]) := Lib.hid (List.take_succ_eq_append_getElem hxk)
      have HM := Lib.hid hM
      clear hM hr1 hl1 ha
      go_wp2_with fail
      refine hcall.mono ?_
      rintro e w5 ⟨A5, c5, rfl, hM5⟩
      clear hcall
      go_wp2_with (at_builtin; refine wpList_appRow w wr _ rfl _ _ rfl A' k c' _ A5 m c5 _ HM.out hM5 (by omega) rfl ?_ ?_; (go_simp); intro A6 c6 w6 hM6)
      go_roundw
      case rel => exact ⟨k + 1, A6, c6, by omega, by go_num, rfl, by rw [HV.out]; exact hM6⟩
      case measure => simp [intOf]; omega
    · obtain rfl : k = n := by omega
      go_wp2
      go_ret
      rw [List.take_of_length_le (by rw [HML.out]; exact Nat.le_refl _)] at hM
      exact ⟨_, _, rfl, hM⟩
end Go.Proofs.YtdbibmilicjllaaGreat
namespace Go.Proofs.YtdbibmilicjllaaGreat
open Go.RowKit Go.Maps
/-- The map from the places of the firsts to the rows, of the first j rows. -/
structure Places {H : Type} (B : List (List Int)) (j : Nat) (D : DataW H) : Prop where
  map : IsMap D
  has : ∀ k : Nat, Maps.has D (.int .i64 k) = true ↔ ∃ i, i < j ∧ ld B i = k
  only : ∀ z : Lit, Maps.has D z = true → ∃ k : Nat, z = .int .i64 k
  val : ∀ i, i < j → ∀ zd, D.atKey (.int .i64 (ld B i)) zd = .lit (.int .i64 i)
end Go.Proofs.YtdbibmilicjllaaGreat
namespace Go.Proofs.YtdbibmilicjllaaGreat
open Go.RowKit
set_option maxHeartbeats 1600000 in
set_option maxRecDepth 8000 in
theorem transpose_any (p : Int) (A : Option Addr) (n c : Nat) (M : List (List Int)) (m : Nat) (w : World) (h0 : 0 < n) (hn : n ≤ 65536) (hm : m ≤ 65536) (ha : RdII w A n M) (hT : Tab p m M) :
    Calls Tryz.prog 212 #[.slice A n c] w fun e w' => ∃ A' c', e = .returned (.slice A' m c') ∧ MkII w w' A' m c' (transL M) := by
  have hML := ha.len
  have HTL : Hid (transL M = tab m fun k => tab n fun i => ent M i k) := Lib.hid (by unfold transL; rw [(hT.row (show 0 < M.length by omega)).1, hML])
  have HT := Lib.hid hT
  have HML := Lib.hid hML
  have hM0 : MkII w (w.alloc (.cells #[] 24)) (some ⟨w.heap.size, 0, none⟩) 0 0 [] := MkII.empty (Below.refl _ _)
  obtain ⟨g, o, rfl, hx0, A0, c0, hcx0, _, _⟩ := (ha.below hM0.b).at_ h0
  have hl0 : M[0].length = m := (HT.out M[0] (List.getElem_mem hx0)).1
  rw [hl0, Nat.add_zero] at hcx0
  clear hT hML hl0
  go_enter Tryz.func212, Tryz.ntmps212
  go_wp2
  clear hcx0
  obtain ⟨w1, hw1⟩ : ∃ W, W = w.alloc (.cells #[] 24) := ⟨_, rfl⟩
  rw [← hw1] at hM0 ⊢
  clear hw1
  go_loopw [3, 12] (fun out i wr => ∃ (k : Nat) (A' : Option Addr) (c' : Nat), k ≤ m ∧ i = .int .i64 k ∧ out = .slice A' k c' ∧ MkII w wr A' k c' (tab k fun k => tab n fun i => ent M i k)) (fun _ i _ => m - (intOf i).toNat)
  case atStart => exact ⟨0, _, _, by omega, rfl, rfl, by simpa [tab] using hM0⟩
  case round =>
    obtain ⟨k, A', c', hk, rfl, rfl, hM⟩ := hrel
    clear hM0
    obtain ⟨wo, rfl⟩ : ∃ W, W = wr := ⟨_, rfl⟩
    by_cases hlt : k < m
    · have hr0 := Mk.lit (E := 2) (Below.refl wo.heap.size wo) #[] (by simp)
      have hR0 : MkI wo (wo.alloc (.cells #[] 2)) (some ⟨wo.heap.size, 0, none⟩) 0 0 [] := by simpa [MkI, ints] using hr0
      have HM := Lib.hid hM
      clear hr0 hM
      go_wp2
      go_loopw [5, 18] (fun row i w2 => ∃ (j : Nat) (A2 : Option Addr) (c2 : Nat), j ≤ n ∧ i = .int .i64 j ∧ row = .slice A2 j c2 ∧ MkI wo w2 A2 j c2 (tab j fun i => ent M i k)) (fun _ i _ => n - (intOf i).toNat)
      case atStart => exact ⟨0, _, _, by omega, rfl, rfl, by simpa [tab] using hR0⟩
      case round =>
        obtain ⟨j, A2, c2, hj, rfl, rfl, hR⟩ := hrel
        clear hR0
        have HR := Lib.hid hR
        by_cases hlj : j < n
        · have hbb := HM.out.b.trans (hR.b.mono HM.out.b.size)
          obtain ⟨g', o', e', hxj, A3, c3, hcx, hr3, _⟩ := (ha.below hbb).at_ hlj
          injection e' with e'; injection e' with e1 e2 _
          subst e1; subst e2
          have hl3 : M[j].length = m := (HT.out M[j] (List.getElem_mem hxj)).1
          rw [hl3] at hcx hr3
          obtain ⟨g3, o3, rfl, hx3, hc3⟩ := hr3.int hlt
          have HV : Hid ((tab (j + 1) fun i => ent M i k) = (tab j fun i => ent M i k) ++ [M[j][k]]) := Lib.hid (by rw [tab_succ, ent_at hxj hx3])
          clear hR hr3 hl3 hbb ha
          go_wp2_with (at_builtin; refine wpList_app1 wo _ 24 2 _ _ Tryz.underlying24 info_i rfl (by omega) rfl _ _ rfl A2 j c2 _ _ HR.out (by omega) rfl rfl rfl ?_; intro A4 c4 w4 hM4 _ _)
          go_roundw
          case rel => exact ⟨j + 1, A4, c4, by omega, by go_num, rfl, by rw [HV.out]; simpa [MkI, ints] using hM4⟩
          case measure => simp [intOf]; omega
        · obtain rfl : j = n := by omega
          clear hR ha
          go_wp2_with (at_builtin; refine wpList_appRow w wo _ rfl _ _ rfl A' k c' _ A2 j c2 _ HM.out HR.out (by omega) rfl ?_ ?_; (go_simp); intro A4 c4 w4 hM4)
          go_roundw
          case rel => exact ⟨k + 1, A4, c4, by omega, by go_num, rfl, by rw [tab_succ]; exact hM4⟩
          case measure => simp [intOf]; omega
    · go_wp2
      go_ret
      obtain rfl : k = m := by omega
      exact ⟨_, _, rfl, by rw [HTL.out]; exact hM⟩
set_option maxHeartbeats 1600000 in
set_option maxRecDepth 8000 in
theorem l02Turn_any (p : Int) (A : Option Addr) (n c : Nat) (M : List (List Int)) (m : Nat) (w : World) (h0 : 0 < n) (hn : n ≤ 65536) (hm : m ≤ 65536) (ha : RdII w A n M) (hT : Tab p m M) :
    Calls Tryz.prog 216 #[.slice A n c] w fun e w' => ∃ A' c', e = .returned (.slice A' m c') ∧ MkII w w' A' m c' (transL M) := by
  have hML := ha.len
  have HTL : Hid (transL M = tab m fun k => tab n fun i => ent M i k) := Lib.hid (by unfold transL; rw [(hT.row (show 0 < M.length by omega)).1, hML])
  have HT := Lib.hid hT
  have HML := Lib.hid hML
  have hM0 : MkII w (w.alloc (.cells #[] 24)) (some ⟨w.heap.size, 0, none⟩) 0 0 [] := MkII.empty (Below.refl _ _)
  obtain ⟨g, o, rfl, _⟩ := ha.at_ h0
  clear hT hML
  go_enter Tryz.func216, Tryz.ntmps216
  go_wp2
  obtain ⟨w1, hw1⟩ : ∃ W, W = w.alloc (.cells #[] 24) := ⟨_, rfl⟩
  rw [← hw1] at hM0 ⊢
  clear hw1
  go_loopw [3, 4] (fun out i wr => ∃ (k : Nat) (A' : Option Addr) (c' : Nat), k ≤ m ∧ i = .int .i64 k ∧ out = .slice A' k c' ∧ MkII w wr A' k c' (tab k fun k => tab n fun i => ent M i k)) (fun _ i _ => m - (intOf i).toNat)
  case atStart => exact ⟨0, _, _, by omega, rfl, rfl, by simpa [tab] using hM0⟩
  case round =>
    obtain ⟨k, A', c', hk, rfl, rfl, hM⟩ := hrel
    clear hM0
    obtain ⟨wo, rfl⟩ : ∃ W, W = wr := ⟨_, rfl⟩
    obtain ⟨A0, c0, hcx0⟩ := (ha.below hM.b).row0 h0 HT.out
    by_cases hlt : k < m
    · have hr0 := Mk.lit (E := 2) (Below.refl wo.heap.size wo) #[] (by simp)
      have hR0 : MkI wo (wo.alloc (.cells #[] 2)) (some ⟨wo.heap.size, 0, none⟩) 0 0 [] := by simpa [MkI, ints] using hr0
      have HM := Lib.hid hM
      clear hr0 hM
      go_wp2
      go_loopw [5, 6] (fun row i w2 => ∃ (j : Nat) (A2 : Option Addr) (c2 : Nat), j ≤ n ∧ i = .int .i64 j ∧ row = .slice A2 j c2 ∧ MkI wo w2 A2 j c2 (tab j fun i => ent M i k)) (fun _ i _ => n - (intOf i).toNat)
      case atStart => exact ⟨0, _, _, by omega, rfl, rfl, by simpa [tab] using hR0⟩
      case round =>
        obtain ⟨j, A2, c2, hj, rfl, rfl, hR⟩ := hrel
        clear hR0 hcx0
        have HR := Lib.hid hR
        by_cases hlj : j < n
        · have hbb := HM.out.b.trans (hR.b.mono HM.out.b.size)
          obtain ⟨g', o', e', hxj, A3, c3, hcx, hr3, _⟩ := (ha.below hbb).at_ hlj
          injection e' with e'; injection e' with e1 e2 _
          subst e1; subst e2
          have hl3 : M[j].length = m := (HT.out M[j] (List.getElem_mem hxj)).1
          rw [hl3] at hcx hr3
          obtain ⟨g3, o3, rfl, hx3, hc3⟩ := hr3.int hlt
          have HV : Hid ((tab (j + 1) fun i => ent M i k) = (tab j fun i => ent M i k) ++ [M[j][k]]) := Lib.hid (by rw [tab_succ, ent_at hxj hx3])
          clear hR hr3 hl3 hbb ha
          go_wp2_with (at_builtin; refine wpList_app1 wo _ 24 2 _ _ Tryz.underlying24 info_i rfl (by omega) rfl _ _ rfl A2 j c2 _ _ HR.out (by omega) rfl rfl rfl ?_; intro A4 c4 w4 hM4 _ _)
          go_roundw
          case rel => exact ⟨j + 1, A4, c4, by omega, by go_num, rfl, by rw [HV.out]; simpa [MkI, ints] using hM4⟩
          case measure => simp [intOf]; omega
        · obtain rfl : j = n := by omega
          clear hR ha
          go_wp2_with (at_builtin; refine wpList_appRow w wo _ rfl _ _ rfl A' k c' _ A2 j c2 _ HM.out HR.out (by omega) rfl ?_ ?_; (go_simp); intro A4 c4 w4 hM4)
          go_roundw
          case rel => exact ⟨k + 1, A4, c4, by omega, by go_num, rfl, by rw [tab_succ]; exact hM4⟩
          case measure => simp [intOf]; omega
    · go_wp2
      go_ret
      obtain rfl : k = m := by omega
      exact ⟨_, _, rfl, by rw [HTL.out]; exact hM⟩
end Go.Proofs.YtdbibmilicjllaaGreat
namespace Go.Proofs.YtdbibmilicjllaaGreat
open Go.RowKit
/-- The outer product of vectors. -/
def wedgesL (P : Int) (sq : List Int) (n : Nat) (L : List (List Int)) : List Int := L.foldl (fun o v => wedgeL P sq o (vecTo n v n)) (bladeL n 0)
theorem wedgesL_snoc (P : Int) (sq : List Int) (n : Nat) (L : List (List Int)) (v : List Int) : wedgesL P sq n (L ++ [v]) = wedgeL P sq (wedgesL P sq n L) (vecTo n v n) := by unfold wedgesL; rw [List.foldl_append]; rfl
theorem wedgesL_len (P : Int) (sq : List Int) (n : Nat) : ∀ (k : Nat) (L : List (List Int)), L.length = k → (wedgesL P sq n L).length = pw n := by
  intro k
  induction k with
  | zero => intro L h; rw [List.eq_nil_of_length_eq_zero h]; exact bladeL_len n 0
  | succ k ih =>
    intro L h
    have hne : L ≠ [] := fun e => by rw [e] at h; simp at h
    rw [← List.dropLast_concat_getLast hne, wedgesL_snoc, wedgeL_len]
    exact ih _ (by rw [List.length_dropLast, h]; rfl)
/-- A vector with all numbers multiplied by the squares. -/
def weiL (P : Int) (sq v : List Int) : List Int := tab v.length fun i => v.getD i 0 * sq.getD i 0 % P
theorem weiL_len (P : Int) (sq v : List Int) : (weiL P sq v).length = v.length := tab_len _ _
theorem weiL_nums {P : Int} (hp : 0 < P) (sq v : List Int) : NumsL P (weiL P sq v) := NumsL.tab fun i _ => ⟨Int.emod_nonneg _ (by omega), Int.emod_lt_of_pos _ hp⟩
/-- The product of two vectors. -/
def pairL (P : Int) (sq v u : List Int) : Int := dotL P (weiL P sq v) u
theorem pairL_sum {P : Int} {sq v u : List Int} {n : Nat} (hv : v.length = n) : pairL P sq v u = (sumTo n fun i => v.getD i 0 * u.getD i 0 % P * sq.getD i 0) % P := by
  unfold pairL dotL
  rw [weiL_len, hv]
  refine sumTo_mod P fun i hi => ?_
  unfold weiL
  rw [tab_getD (by omega), Int.mul_emod, Int.emod_emod_of_dvd _ (Int.dvd_refl P), ← Int.mul_emod, Int.mul_emod (v.getD i 0 * u.getD i 0 % P), Int.emod_emod_of_dvd _ (Int.dvd_refl P), ← Int.mul_emod, Int.mul_assoc, Int.mul_comm (sq.getD i 0), ← Int.mul_assoc]
set_option maxHeartbeats 3200000 in
set_option maxRecDepth 8000 in
theorem weighted_any (P : Int) (A : Option Addr) (n c : Nat) (sq : List Int) (X : Option Addr) (cx : Nat) (v : List Int) (w : World) (hp : 2 ≤ P) (hp2 : P ≤ 13) (hn : n ≤ 6) (ha : Rd w A n (ints sq)) (hs : NumsL P sq) (hx : Rd w X n (ints v)) (hv : NumsL P v) :
    Calls Tryz.prog 431 #[.agg #[.int .i64 P, .slice A n c], .slice X n cx] w fun e w' => ∃ A' c', e = .returned (.slice A' n c') ∧ MkI w w' A' n c' (weiL P sq v) := by
  have HL : Hid (weiL P sq v = tab n fun i => v.getD i 0 * sq.getD i 0 % P) := Lib.hid (by unfold weiL; rw [hx.lenI])
  have hB0 : Below w.heap.size w (w.alloc (.cells #[.int .i64 P, .slice A n c] 26)) := (Below.refl _ _).alloc (Nat.le_refl _) _
  have k0 : Blk (w.alloc (.cells #[.int .i64 P, .slice A n c] 26)) w.heap.size 26 #[.int .i64 P, .slice A n c] := Blk.new _ _ _
  have k1 := k0.alloc (.cells #[] 2)
  have hM0 := Mk.lit (E := 2) hB0 #[] (by simp)
  have hM1 : MkI w ((w.alloc (.cells #[.int .i64 P, .slice A n c] 26)).alloc (.cells #[] 2)) (some ⟨w.heap.size + 1, 0, none⟩) 0 0 (tab 0 fun i => v.getD i 0 * sq.getD i 0 % P) := by
    simpa [MkI, ints, tab] using hM0
  clear k0 hB0 hM0
  go_enter Tryz.func431, Tryz.ntmps431
  go_wp2
  go_loopw [5, 6, 7, 11] (fun out _ _ i wr => ∃ (j : Nat) (A' : Option Addr) (c' : Nat), j ≤ n ∧ i = .int .i64 j ∧ out = .slice A' j c' ∧ MkI w wr A' j c' (tab j fun i => v.getD i 0 * sq.getD i 0 % P) ∧ Blk wr w.heap.size 26 #[.int .i64 P, .slice A n c]) (fun _ _ _ i _ => n - (intOf i).toNat)
  case atStart => exact ⟨0, _, _, by omega, rfl, rfl, hM1, k1⟩
  case round =>
    obtain ⟨j, A', c', hj, rfl, rfl, hM, k2⟩ := hrel
    clear hM1 k1
    obtain ⟨q0, q1⟩ := k2.two
    by_cases hlt : j < n
    · obtain ⟨g, o, rfl, hxj, hcx⟩ := (hx.below hM.b).int hlt
      obtain ⟨g2, o2, rfl, hyj, hcy⟩ := (ha.below hM.b).int hlt
      obtain ⟨x1, x2⟩ := hv _ (List.getElem_mem hxj)
      obtain ⟨y1, y2⟩ := hs _ (List.getElem_mem hyj)
      have HV : Hid ((tab (j + 1) fun i => v.getD i 0 * sq.getD i 0 % P) = (tab j fun i => v.getD i 0 * sq.getD i 0 % P) ++ [v[j] * sq[j] % P]) := Lib.hid (by rw [tab_succ, getD_of_lt 0 hxj, getD_of_lt 0 hyj])
      obtain ⟨xa, hxe⟩ : ∃ xa, xa = v[j] := ⟨_, rfl⟩
      obtain ⟨ya, hye⟩ : ∃ ya, ya = sq[j] := ⟨_, rfl⟩
      rw [← hxe] at hcx x1 x2 HV
      rw [← hye] at hcy y1 y2 HV
      obtain ⟨m1, m2⟩ := mul_small x1 (show xa ≤ 13 by omega) y1 (show ya ≤ 13 by omega)
      have W1 := i64_fit (xa * ya) (by omega) (by omega)
      have i1 : (0 : Int) ≤ (j : Int) := by omega
      have i2 : (j : Int) < (n : Int) := by omega
      have HM := Lib.hid hM
      clear hxe hye hxj hyj hM
      go_wp2
      refine wp_obs 12 [[], [], [1], [], [], [4], [], [4, 5, 6], [4, 5, 6, 7], [3, 4, 5, 6, 7, 8], [1, 2, 3, 4, 5, 6, 7, 8, 9], [1, 2, 3, 4, 5, 6, 7, 8, 9, 10], [0, 1, 2, 3, 4, 5, 6, 7, 8, 9, 10, 11], [0, 1, 2, 3, 4, 5, 6, 7, 8, 9, 10, 11, 12]] [VIs (.slice A' j c'), VIs (.agg #[.int .i64 P, .slice (some ⟨g2, o2, none⟩) n c]), VIs (.int .i64 (P)), VIs (.int .i64 (xa)), VIs (.pointer (some ⟨w.heap.size, 1, none⟩)), VIs (.slice (some ⟨g2, o2, none⟩) n c), VIs (.int .i64 (j)), VIs (.pointer (some ⟨g2, o2 + j, none⟩)), VIs (.int .i64 (ya)), VIs (.int .i64 (xa * ya)), VIs (.int .i64 (xa * ya % P)), VBs 2 #[.int .i64 (xa * ya % P)]] (fun w' => w'.cell? ⟨g2, o2 + j, none⟩ = some (.int .i64 ya) ∧ Blk w' w.heap.size 26 #[.int .i64 P, .slice (some ⟨g2, o2, none⟩) n c] ∧ Below wr.heap.size wr w') (by kernel_rfl) (by kernel_rfl) (fun _ _ h hb => ⟨(hb.cell (World.block_lt_of_cell? _ _ h.1)).trans h.1, h.2.1.below hb h.2.1.lt, h.2.2.trans (hb.mono h.2.2.size)⟩) (⟨hcy, k2.drew, (Below.refl _ _).drew⟩) (fun x => ?_)
      refine obs_step (Eq.trans (by simp only [zA, zC]; exact rfl) rfl) rfl (fun w' hS hV K hK => ?_) ?_
      · have q2 := hS.1; obtain ⟨q0, q1⟩ := hS.2.1.two
        go_simp
        exact hK.out _ _ _ rfl rfl rfl (Below.refl _ _)
      simp only [zD, zE, zF]
      refine obs_step (Eq.trans (by simp only [zA, zB, zC]; exact rfl) rfl) rfl (fun w' hS hV K hK => ?_) ?_
      · have q2 := hS.1; obtain ⟨q0, q1⟩ := hS.2.1.two
        go_simp
        exact hK.out _ _ _ rfl rfl rfl (Below.refl _ _)
      simp only [zD, zE, zF]
      refine obs_step (Eq.trans (by simp only [zA, zB, zC]; exact rfl) rfl) rfl (fun w' hS hV K hK => ?_) ?_
      · have e1 : x 1 = (.agg #[.int .i64 P, .slice (some ⟨g2, o2, none⟩) n c]) := hV 1 (by decide)
        have q2 := hS.1; obtain ⟨q0, q1⟩ := hS.2.1.two
        go_simp
        refine (field_any _ _ _ _ _).mono ?_
        rintro e v1 ⟨rfl, hb⟩
        exact hK.out _ _ _ rfl rfl rfl hb
      simp only [zD, zE, zF]
      refine obs_step (Eq.trans (by simp only [zA, zB, zC]; exact rfl) rfl) rfl (fun w' hS hV K hK => ?_) ?_
      · have q2 := hS.1; obtain ⟨q0, q1⟩ := hS.2.1.two
        go_simp
        exact hK.out _ _ _ rfl rfl rfl (Below.refl _ _)
      simp only [zD, zE, zF]
      refine obs_step (Eq.trans (by simp only [zA, zB, zC]; exact rfl) rfl) rfl (fun w' hS hV K hK => ?_) ?_
      · have q2 := hS.1; obtain ⟨q0, q1⟩ := hS.2.1.two
        go_simp
        exact hK.out _ _ _ rfl rfl rfl (Below.refl _ _)
      simp only [zD, zE, zF]
      refine obs_step (Eq.trans (by simp only [zA, zB, zC]; exact rfl) rfl) rfl (fun w' hS hV K hK => ?_) ?_
      · have e4 : x 4 = (.pointer (some ⟨w.heap.size, 1, none⟩)) := hV 4 (by decide)
        have q2 := hS.1; obtain ⟨q0, q1⟩ := hS.2.1.two
        go_simp
        exact hK.out _ _ _ rfl rfl rfl (Below.refl _ _)
      simp only [zD, zE, zF]
      refine obs_step (Eq.trans (by simp only [zA, zB, zC]; exact rfl) rfl) rfl (fun w' hS hV K hK => ?_) ?_
      · have q2 := hS.1; obtain ⟨q0, q1⟩ := hS.2.1.two
        go_simp
        exact hK.out _ _ _ rfl rfl rfl (Below.refl _ _)
      simp only [zD, zE, zF]
      refine obs_step (Eq.trans (by simp only [zA, zB, zC]; exact rfl) rfl) rfl (fun w' hS hV K hK => ?_) ?_
      · have e5 : x 5 = (.slice (some ⟨g2, o2, none⟩) n c) := hV 5 (by decide)
        have e6 : x 6 = (.int .i64 (j)) := hV 6 (by decide)
        have q2 := hS.1; obtain ⟨q0, q1⟩ := hS.2.1.two
        go_simp
        exact hK.out _ _ _ rfl rfl rfl (Below.refl _ _)
      simp only [zD, zE, zF]
      refine obs_step (Eq.trans (by simp only [zA, zB, zC]; exact rfl) rfl) rfl (fun w' hS hV K hK => ?_) ?_
      · have e7 : x 7 = (.pointer (some ⟨g2, o2 + j, none⟩)) := hV 7 (by decide)
        have q2 := hS.1; obtain ⟨q0, q1⟩ := hS.2.1.two
        go_simp
        exact hK.out _ _ _ rfl rfl rfl (Below.refl _ _)
      simp only [zD, zE, zF]
      refine obs_step (Eq.trans (by simp only [zA, zB, zC]; exact rfl) rfl) rfl (fun w' hS hV K hK => ?_) ?_
      · have e3 : x 3 = (.int .i64 (xa)) := hV 3 (by decide)
        have e8 : x 8 = (.int .i64 (ya)) := hV 8 (by decide)
        have q2 := hS.1; obtain ⟨q0, q1⟩ := hS.2.1.two
        go_simp
        exact hK.out _ _ _ rfl rfl rfl (Below.refl _ _)
      simp only [zD, zE, zF]
      refine obs_step (Eq.trans (by simp only [zA, zB, zC]; exact rfl) rfl) rfl (fun w' hS hV K hK => ?_) ?_
      · have e2 : x 2 = (.int .i64 (P)) := hV 2 (by decide)
        have e9 : x 9 = (.int .i64 (xa * ya)) := hV 9 (by decide)
        have q2 := hS.1; obtain ⟨q0, q1⟩ := hS.2.1.two
        go_simp
        refine (num_any P (xa * ya) _ (by omega) hp2 (by omega) (by omega)).mono ?_
        rintro e v1 ⟨rfl, rfl⟩
        exact hK.out _ _ _ rfl rfl rfl (Below.refl _ _)
      simp only [zD, zE, zF]
      refine obs_step (Eq.trans (by simp only [zA, zB, zC]; exact rfl) rfl) rfl (fun w' hS hV K hK => ?_) ?_
      · have e10 : x 10 = (.int .i64 (xa * ya % P)) := hV 10 (by decide)
        have q2 := hS.1; obtain ⟨q0, q1⟩ := hS.2.1.two
        go_simp
        exact hK.out _ _ _ rfl rfl ⟨_, rfl, Blk.new _ _ _⟩ ((Below.refl _ _).alloc (Nat.le_refl _) _)
      simp only [zD, zE, zF]
      refine fun w' hS hV => ?_
      have e0 : x 0 = (.slice A' j c') := hV 0 (by decide)
      have e1 : x 1 = (.agg #[.int .i64 P, .slice (some ⟨g2, o2, none⟩) n c]) := hV 1 (by decide)
      have e2 : x 2 = (.int .i64 (P)) := hV 2 (by decide)
      have e3 : x 3 = (.int .i64 (xa)) := hV 3 (by decide)
      have e4 : x 4 = (.pointer (some ⟨w.heap.size, 1, none⟩)) := hV 4 (by decide)
      have e5 : x 5 = (.slice (some ⟨g2, o2, none⟩) n c) := hV 5 (by decide)
      have e6 : x 6 = (.int .i64 (j)) := hV 6 (by decide)
      have e7 : x 7 = (.pointer (some ⟨g2, o2 + j, none⟩)) := hV 7 (by decide)
      have e8 : x 8 = (.int .i64 (ya)) := hV 8 (by decide)
      have e9 : x 9 = (.int .i64 (xa * ya)) := hV 9 (by decide)
      have e10 : x 10 = (.int .i64 (xa * ya % P)) := hV 10 (by decide)
      obtain ⟨b11, e11, h11⟩ := hV 11 (by decide)
      simp only [e0, e1, e2, e3, e4, e5, e6, e7, e8, e9, e10, e11]
      clear e0 e1 e2 e3 e4 e5 e6 e7 e8 e9 e10 e11
      have s1 := HM.out.below hS.2.2
      have k3 := hS.2.1
      refine any_plain (j := 12) (by kernel_rfl) (Eq.trans (by simp only [zA, zB, zC]; exact rfl) rfl) rfl (fun K hK => ?_)
      refine wp_app1 w w' 24 2 _ _ Tryz.underlying24 info_i rfl (by omega) _ _ rfl A' j c' _ _ s1 (by omega) rfl _ h11 (by rfl) (by rfl) ?_
      intro A2 c2 w2 hM2 hgr
      refine hK.out _ _ ?_
      simp only [Act.put, zD, zE, zF]
      refine any_one (j := 13) (by kernel_rfl) (Eq.trans (by simp only [zA, zB, zC]; exact rfl) rfl) (fun K hK => ?_)
      go_simp
      refine hK.out _ _ (wpAny_done (by kernel_rfl) ?_ _)
      have k4 := k3.grown hgr (s1.2.ne_blk k3 (by decide))
      clear W1 s1 k3 hgr hS
      go_wp2
      go_roundw
      case rel => exact ⟨j + 1, A2, c2, by omega, by go_num, rfl, by rw [HV.out]; simpa [MkI, ints] using hM2, k4⟩
      case measure => simp [intOf]; omega
    · obtain rfl : j = n := by omega
      go_wp2
      go_ret
      exact ⟨_, _, rfl, by rw [HL.out]; exact hM⟩
set_option maxHeartbeats 1600000 in
set_option maxRecDepth 8000 in
theorem pair_any (P : Int) (A : Option Addr) (n c : Nat) (sq : List Int) (X : Option Addr) (cx : Nat) (v : List Int) (Y : Option Addr) (cy : Nat) (u : List Int) (w : World) (hp : 2 ≤ P) (hp2 : P ≤ 13) (hn : n ≤ 6) (ha : Rd w A n (ints sq)) (hs : NumsL P sq) (hx : Rd w X n (ints v)) (hv : NumsL P v) (hy : Rd w Y n (ints u)) (hu : NumsL P u) :
    Calls Tryz.prog 329 #[.agg #[.int .i64 P, .slice A n c], .slice X n cx, .slice Y n cy] w fun e w' => e = .returned (.int .i64 (pairL P sq v u)) ∧ Below w.heap.size w w' := by
  have HPL : Hid (pairL P sq v u = dotL P (weiL P sq v) u) := Lib.hid rfl
  have hB0 : Below w.heap.size w (w.alloc (.cells #[.int .i64 P, .slice A n c] 26)) := (Below.refl _ _).alloc (Nat.le_refl _) _
  have k0 : Blk (w.alloc (.cells #[.int .i64 P, .slice A n c] 26)) w.heap.size 26 #[.int .i64 P, .slice A n c] := Blk.new _ _ _
  go_enter Tryz.func329, Tryz.ntmps329
  go_wp2
  refine wp_obs 8 [[], [0], [], [], [2, 3], [], [0, 1, 2, 3, 4, 5], [0, 1, 2, 3, 4, 5, 6]] [VIs (.agg #[.int .i64 P, .slice A n c]), VIs (.int .i64 (P)), VIs (.agg #[.int .i64 P, .slice A n c]), VIs (.slice X n cx), VSl w n (weiL P sq v), VIs (.slice Y n cy), VIs (.int .i64 (pairL P sq v u)), VIs (.int .i64 (pairL P sq v u))] (fun w' => Blk w' w.heap.size 26 #[.int .i64 P, .slice A n c] ∧ Below w.heap.size w w') (by kernel_rfl) (by kernel_rfl) (fun _ _ h hb => ⟨h.1.below hb h.1.lt, h.2.trans (hb.mono h.2.size)⟩) (⟨k0.drew, hB0.drew⟩) (fun x => ?_)
  refine obs_step (Eq.trans (by simp only [zA, zC]; exact rfl) rfl) rfl (fun w' hS hV K hK => ?_) ?_
  · obtain ⟨q0, q1⟩ := hS.1.two
    go_simp
    exact hK.out _ _ _ rfl rfl rfl (Below.refl _ _)
  simp only [zD, zE, zF]
  refine obs_step (Eq.trans (by simp only [zA, zB, zC]; exact rfl) rfl) rfl (fun w' hS hV K hK => ?_) ?_
  · have e0 : x 0 = (.agg #[.int .i64 P, .slice A n c]) := hV 0 (by decide)
    obtain ⟨q0, q1⟩ := hS.1.two
    go_simp
    refine (field_any _ _ _ _ _).mono ?_
    rintro e v1 ⟨rfl, hb⟩
    exact hK.out _ _ _ rfl rfl rfl hb
  simp only [zD, zE, zF]
  refine obs_step (Eq.trans (by simp only [zA, zB, zC]; exact rfl) rfl) rfl (fun w' hS hV K hK => ?_) ?_
  · obtain ⟨q0, q1⟩ := hS.1.two
    go_simp
    exact hK.out _ _ _ rfl rfl rfl (Below.refl _ _)
  simp only [zD, zE, zF]
  refine obs_step (Eq.trans (by simp only [zA, zB, zC]; exact rfl) rfl) rfl (fun w' hS hV K hK => ?_) ?_
  · obtain ⟨q0, q1⟩ := hS.1.two
    go_simp
    exact hK.out _ _ _ rfl rfl rfl (Below.refl _ _)
  simp only [zD, zE, zF]
  refine obs_step (Eq.trans (by simp only [zA, zB, zC]; exact rfl) rfl) rfl (fun w' hS hV K hK => ?_) ?_
  · have e2 : x 2 = (.agg #[.int .i64 P, .slice A n c]) := hV 2 (by decide)
    have e3 : x 3 = (.slice X n cx) := hV 3 (by decide)
    obtain ⟨q0, q1⟩ := hS.1.two
    go_simp
    refine (weighted_any P A n c sq X cx v _ hp hp2 hn (ha.below hS.2) hs (hx.below hS.2) hv).mono ?_
    rintro e v1 ⟨A2, c2, rfl, hM⟩
    exact hK.out _ _ _ rfl rfl ⟨_, _, rfl, hM.after hS.2⟩ hM.b
  simp only [zD, zE, zF]
  refine obs_step (Eq.trans (by simp only [zA, zB, zC]; exact rfl) rfl) rfl (fun w' hS hV K hK => ?_) ?_
  · obtain ⟨q0, q1⟩ := hS.1.two
    go_simp
    exact hK.out _ _ _ rfl rfl rfl (Below.refl _ _)
  simp only [zD, zE, zF]
  refine obs_step (Eq.trans (by simp only [zA, zB, zC]; exact rfl) rfl) rfl (fun w' hS hV K hK => ?_) ?_
  · have e1 : x 1 = (.int .i64 (P)) := hV 1 (by decide)
    obtain ⟨A4, c4, e4, h4⟩ := hV 4 (by decide)
    have e5 : x 5 = (.slice Y n cy) := hV 5 (by decide)
    obtain ⟨q0, q1⟩ := hS.1.two
    go_simp
    refine (dot_any P _ n _ _ n _ (weiL P sq v) u _ hp hp2 (by omega) (Nat.le_refl _) h4.rd (weiL_nums (by omega) _ _) (hy.below hS.2) hu).mono ?_
    rw [← HPL.out]
    rintro e v1 ⟨rfl, rfl⟩
    exact hK.out _ _ _ rfl rfl rfl (Below.refl _ _)
  simp only [zD, zE, zF]
  refine obs_step (Eq.trans (by simp only [zA, zB, zC]; exact rfl) rfl) rfl (fun w' hS hV K hK => ?_) ?_
  · obtain ⟨A4, c4, e4, h4⟩ := hV 4 (by decide)
    have e6 : x 6 = (.int .i64 (pairL P sq v u)) := hV 6 (by decide)
    obtain ⟨q0, q1⟩ := hS.1.two
    go_simp
    exact hK.out _ _ _ rfl rfl rfl (Below.refl _ _)
  simp only [zD, zE, zF]
  refine fun w' hS hV => ?_
  have e0 : x 0 = (.agg #[.int .i64 P, .slice A n c]) := hV 0 (by decide)
  have e1 : x 1 = (.int .i64 (P)) := hV 1 (by decide)
  have e2 : x 2 = (.agg #[.int .i64 P, .slice A n c]) := hV 2 (by decide)
  have e3 : x 3 = (.slice X n cx) := hV 3 (by decide)
  obtain ⟨A4, c4, e4, h4⟩ := hV 4 (by decide)
  have e5 : x 5 = (.slice Y n cy) := hV 5 (by decide)
  have e6 : x 6 = (.int .i64 (pairL P sq v u)) := hV 6 (by decide)
  have e7 : x 7 = (.int .i64 (pairL P sq v u)) := hV 7 (by decide)
  simp only [e0, e1, e2, e3, e4, e5, e6, e7]
  clear e0 e1 e2 e3 e4 e5 e6 e7
  refine wpAny_done (by kernel_rfl) ?_ _
  go_wp2
  go_ret
  exact ⟨rfl, hS.2⟩
set_option maxHeartbeats 3200000 in
set_option maxRecDepth 8000 in
theorem l03Pair_any (P : Int) (A : Option Addr) (n c : Nat) (sq : List Int) (X : Option Addr) (cx : Nat) (v : List Int) (Y : Option Addr) (cy : Nat) (u : List Int) (w : World) (hp : 2 ≤ P) (hp2 : P ≤ 13) (hn : n ≤ 6) (ha : Rd w A n (ints sq)) (hs : NumsL P sq) (hx : Rd w X n (ints v)) (hv : NumsL P v) (hy : Rd w Y n (ints u)) (hu : NumsL P u) :
    Calls Tryz.prog 231 #[.agg #[.int .i64 P, .slice A n c], .slice X n cx, .slice Y n cy] w fun e w' => e = .returned (.int .i64 (pairL P sq v u)) ∧ Below w.heap.size w w' := by
  have HPL : Hid (pairL P sq v u = (sumTo n fun i => v.getD i 0 * u.getD i 0 % P * sq.getD i 0) % P) := Lib.hid (pairL_sum hx.lenI)
  have hB0 : Below w.heap.size w (w.alloc (.cells #[.int .i64 P, .slice A n c] 26)) := (Below.refl _ _).alloc (Nat.le_refl _) _
  have k0 : Blk (w.alloc (.cells #[.int .i64 P, .slice A n c] 26)) w.heap.size 26 #[.int .i64 P, .slice A n c] := Blk.new _ _ _
  go_enter Tryz.func231, Tryz.ntmps231
  go_wp2
  go_loopw [7, 8] (fun s i wr => ∃ j : Nat, j ≤ n ∧ i = .int .i64 j ∧ s = .int .i64 ((sumTo j fun i => v.getD i 0 * u.getD i 0 % P * sq.getD i 0) % P) ∧ Below w.heap.size w wr ∧ Blk wr w.heap.size 26 #[.int .i64 P, .slice A n c]) (fun _ i _ => n - (intOf i).toNat)
  case atStart => exact ⟨0, by omega, rfl, by simp [sumTo], hB0, k0⟩
  case round =>
    obtain ⟨j, hj, rfl, rfl, hB1, k1⟩ := hrel
    clear hB0 k0
    have hsb := emod_small (sumTo j fun i => v.getD i 0 * u.getD i 0 % P * sq.getD i 0) P (by omega)
    have hst := sumTo_step P j fun i => v.getD i 0 * u.getD i 0 % P * sq.getD i 0
    have HEN : Hid (j = n → pairL P sq v u = (sumTo j fun i => v.getD i 0 * u.getD i 0 % P * sq.getD i 0) % P) := Lib.hid (fun h => by rw [HPL.out, h])
    obtain ⟨s, hse⟩ : ∃ s, s = (sumTo j fun i => v.getD i 0 * u.getD i 0 % P * sq.getD i 0) % P := ⟨_, rfl⟩
    rw [← hse] at hsb hst HEN ⊢
    clear hse
    by_cases hlt : j < n
    · obtain ⟨g, o, rfl, hxj, hcx⟩ := (hx.below hB1).int hlt
      obtain ⟨g2, o2, rfl, hyj, hcy⟩ := (hy.below hB1).int hlt
      obtain ⟨g3, o3, rfl, hzj, hcz⟩ := (ha.below hB1).int hlt
      obtain ⟨x1, x2⟩ := hv _ (List.getElem_mem hxj)
      obtain ⟨y1, y2⟩ := hu _ (List.getElem_mem hyj)
      obtain ⟨z1, z2⟩ := hs _ (List.getElem_mem hzj)
      have HST : Hid ((sumTo (j + 1) fun i => v.getD i 0 * u.getD i 0 % P * sq.getD i 0) % P = (s + v[j] * u[j] % P * sq[j]) % P) := Lib.hid (by rw [← hst, getD_of_lt 0 hxj, getD_of_lt 0 hyj, getD_of_lt 0 hzj])
      clear hst
      obtain ⟨xa, hxe⟩ : ∃ xa, xa = v[j] := ⟨_, rfl⟩
      obtain ⟨ya, hye⟩ : ∃ ya, ya = u[j] := ⟨_, rfl⟩
      obtain ⟨za, hze⟩ : ∃ za, za = sq[j] := ⟨_, rfl⟩
      rw [← hxe] at hcx x1 x2 HST
      rw [← hye] at hcy y1 y2 HST
      rw [← hze] at hcz z1 z2 HST
      obtain ⟨m1, m2⟩ := mul_small x1 (show xa ≤ 13 by omega) y1 (show ya ≤ 13 by omega)
      obtain ⟨r1, r2⟩ := emod_small (xa * ya) P (by omega)
      obtain ⟨m3, m4⟩ := mul_small r1 (show xa * ya % P ≤ 13 by omega) z1 (show za ≤ 13 by omega)
      have W1 := i64_fit (xa * ya) (by omega) (by omega)
      have W2 := i64_fit (xa * ya % P * za) (by omega) (by omega)
      have W3 := i64_fit (s + xa * ya % P * za) (by omega) (by omega)
      have T1 := Int.tmod_eq_emod_of_nonneg (b := P) m1
      have T2 := Int.tmod_eq_emod_of_nonneg (a := s + xa * ya % P * za) (b := P) (by omega)
      have hP0 : (P == 0) = false := by simp; omega
      have hP1 : (P == -1) = false := by simp; omega
      have hP2 : ¬ P = 0 := by omega
      have i1 : (0 : Int) ≤ (j : Int) := by omega
      have i2 : (j : Int) < (n : Int) := by omega
      obtain ⟨q0, q1⟩ := k1.two
      clear hxe hye hze hxj hyj hzj
      go_wp2
      refine wp_obs 23 [[], [], [], [1, 2], [1, 2, 3], [], [], [5, 6], [5, 6, 7], [1, 2, 3, 4, 5, 6, 7, 8], [], [10], [1, 2, 3, 4, 5, 6, 7, 8, 9, 10, 11], [], [13], [], [13, 14, 15], [13, 14, 15, 16], [1, 2, 3, 4, 5, 6, 7, 8, 9, 10, 11, 12, 13, 14, 15, 16, 17], [0, 1, 2, 3, 4, 5, 6, 7, 8, 9, 10, 11, 12, 13, 14, 15, 16, 17, 18], [], [20], [0, 1, 2, 3, 4, 5, 6, 7, 8, 9, 10, 11, 12, 13, 14, 15, 16, 17, 18, 19, 20, 21], [0, 1, 2, 3, 4, 5, 6, 7, 8, 9, 10, 11, 12, 13, 14, 15, 16, 17, 18, 19, 20, 21, 22]] [VIs (.int .i64 (s)), VIs (.slice (some ⟨g, o, none⟩) n cx), VIs (.int .i64 (j)), VIs (.pointer (some ⟨g, o + j, none⟩)), VIs (.int .i64 (xa)), VIs (.slice (some ⟨g2, o2, none⟩) n cy), VIs (.int .i64 (j)), VIs (.pointer (some ⟨g2, o2 + j, none⟩)), VIs (.int .i64 (ya)), VIs (.int .i64 (xa * ya)), VIs (.pointer (some ⟨w.heap.size, 0, none⟩)), VIs (.int .i64 (P)), VIs (.int .i64 (xa * ya % P)), VIs (.pointer (some ⟨w.heap.size, 1, none⟩)), VIs (.slice (some ⟨g3, o3, none⟩) n c), VIs (.int .i64 (j)), VIs (.pointer (some ⟨g3, o3 + j, none⟩)), VIs (.int .i64 (za)), VIs (.int .i64 (xa * ya % P * za)), VIs (.int .i64 (s + xa * ya % P * za)), VIs (.pointer (some ⟨w.heap.size, 0, none⟩)), VIs (.int .i64 (P)), VIs (.int .i64 ((s + xa * ya % P * za) % P))] (fun w' => w'.cell? ⟨g, o + j, none⟩ = some (.int .i64 xa) ∧ w'.cell? ⟨g2, o2 + j, none⟩ = some (.int .i64 ya) ∧ w'.cell? ⟨g3, o3 + j, none⟩ = some (.int .i64 za) ∧ Blk w' w.heap.size 26 #[.int .i64 P, .slice (some ⟨g3, o3, none⟩) n c] ∧ Below wr.heap.size wr w') (by kernel_rfl) (by kernel_rfl) (fun _ _ h hb => ⟨(hb.cell (World.block_lt_of_cell? _ _ h.1)).trans h.1, (hb.cell (World.block_lt_of_cell? _ _ h.2.1)).trans h.2.1, (hb.cell (World.block_lt_of_cell? _ _ h.2.2.1)).trans h.2.2.1, h.2.2.2.1.below hb h.2.2.2.1.lt, h.2.2.2.2.trans (hb.mono h.2.2.2.2.size)⟩) (⟨hcx, hcy, hcz, k1.drew, (Below.refl _ _).drew⟩) (fun x => ?_)
      refine obs_step (Eq.trans (by simp only [zA, zC]; exact rfl) rfl) rfl (fun w' hS hV K hK => ?_) ?_
      · have q2 := hS.1; have q3 := hS.2.1; have q4 := hS.2.2.1; obtain ⟨q0, q1⟩ := hS.2.2.2.1.two
        go_simp
        exact hK.out _ _ _ rfl rfl rfl (Below.refl _ _)
      simp only [zD, zE, zF]
      refine obs_step (Eq.trans (by simp only [zA, zB, zC]; exact rfl) rfl) rfl (fun w' hS hV K hK => ?_) ?_
      · have q2 := hS.1; have q3 := hS.2.1; have q4 := hS.2.2.1; obtain ⟨q0, q1⟩ := hS.2.2.2.1.two
        go_simp
        exact hK.out _ _ _ rfl rfl rfl (Below.refl _ _)
      simp only [zD, zE, zF]
      refine obs_step (Eq.trans (by simp only [zA, zB, zC]; exact rfl) rfl) rfl (fun w' hS hV K hK => ?_) ?_
      · have q2 := hS.1; have q3 := hS.2.1; have q4 := hS.2.2.1; obtain ⟨q0, q1⟩ := hS.2.2.2.1.two
        go_simp
        exact hK.out _ _ _ rfl rfl rfl (Below.refl _ _)
      simp only [zD, zE, zF]
      refine obs_step (Eq.trans (by simp only [zA, zB, zC]; exact rfl) rfl) rfl (fun w' hS hV K hK => ?_) ?_
      · have e1 : x 1 = (.slice (some ⟨g, o, none⟩) n cx) := hV 1 (by decide)
        have e2 : x 2 = (.int .i64 (j)) := hV 2 (by decide)
        have q2 := hS.1; have q3 := hS.2.1; have q4 := hS.2.2.1; obtain ⟨q0, q1⟩ := hS.2.2.2.1.two
        go_simp
        exact hK.out _ _ _ rfl rfl rfl (Below.refl _ _)
      simp only [zD, zE, zF]
      refine obs_step (Eq.trans (by simp only [zA, zB, zC]; exact rfl) rfl) rfl (fun w' hS hV K hK => ?_) ?_
      · have e3 : x 3 = (.pointer (some ⟨g, o + j, none⟩)) := hV 3 (by decide)
        have q2 := hS.1; have q3 := hS.2.1; have q4 := hS.2.2.1; obtain ⟨q0, q1⟩ := hS.2.2.2.1.two
        go_simp
        exact hK.out _ _ _ rfl rfl rfl (Below.refl _ _)
      simp only [zD, zE, zF]
      refine obs_step (Eq.trans (by simp only [zA, zB, zC]; exact rfl) rfl) rfl (fun w' hS hV K hK => ?_) ?_
      · have q2 := hS.1; have q3 := hS.2.1; have q4 := hS.2.2.1; obtain ⟨q0, q1⟩ := hS.2.2.2.1.two
        go_simp
        exact hK.out _ _ _ rfl rfl rfl (Below.refl _ _)
      simp only [zD, zE, zF]
      refine obs_step (Eq.trans (by simp only [zA, zB, zC]; exact rfl) rfl) rfl (fun w' hS hV K hK => ?_) ?_
      · have q2 := hS.1; have q3 := hS.2.1; have q4 := hS.2.2.1; obtain ⟨q0, q1⟩ := hS.2.2.2.1.two
        go_simp
        exact hK.out _ _ _ rfl rfl rfl (Below.refl _ _)
      simp only [zD, zE, zF]
      refine obs_step (Eq.trans (by simp only [zA, zB, zC]; exact rfl) rfl) rfl (fun w' hS hV K hK => ?_) ?_
      · have e5 : x 5 = (.slice (some ⟨g2, o2, none⟩) n cy) := hV 5 (by decide)
        have e6 : x 6 = (.int .i64 (j)) := hV 6 (by decide)
        have q2 := hS.1; have q3 := hS.2.1; have q4 := hS.2.2.1; obtain ⟨q0, q1⟩ := hS.2.2.2.1.two
        go_simp
        exact hK.out _ _ _ rfl rfl rfl (Below.refl _ _)
      simp only [zD, zE, zF]
      refine obs_step (Eq.trans (by simp only [zA, zB, zC]; exact rfl) rfl) rfl (fun w' hS hV K hK => ?_) ?_
      · have e7 : x 7 = (.pointer (some ⟨g2, o2 + j, none⟩)) := hV 7 (by decide)
        have q2 := hS.1; have q3 := hS.2.1; have q4 := hS.2.2.1; obtain ⟨q0, q1⟩ := hS.2.2.2.1.two
        go_simp
        exact hK.out _ _ _ rfl rfl rfl (Below.refl _ _)
      simp only [zD, zE, zF]
      refine obs_step (Eq.trans (by simp only [zA, zB, zC]; exact rfl) rfl) rfl (fun w' hS hV K hK => ?_) ?_
      · have e4 : x 4 = (.int .i64 (xa)) := hV 4 (by decide)
        have e8 : x 8 = (.int .i64 (ya)) := hV 8 (by decide)
        have q2 := hS.1; have q3 := hS.2.1; have q4 := hS.2.2.1; obtain ⟨q0, q1⟩ := hS.2.2.2.1.two
        go_simp
        exact hK.out _ _ _ rfl rfl rfl (Below.refl _ _)
      simp only [zD, zE, zF]
      refine obs_step (Eq.trans (by simp only [zA, zB, zC]; exact rfl) rfl) rfl (fun w' hS hV K hK => ?_) ?_
      · have q2 := hS.1; have q3 := hS.2.1; have q4 := hS.2.2.1; obtain ⟨q0, q1⟩ := hS.2.2.2.1.two
        go_simp
        exact hK.out _ _ _ rfl rfl rfl (Below.refl _ _)
      simp only [zD, zE, zF]
      refine obs_step (Eq.trans (by simp only [zA, zB, zC]; exact rfl) rfl) rfl (fun w' hS hV K hK => ?_) ?_
      · have e10 : x 10 = (.pointer (some ⟨w.heap.size, 0, none⟩)) := hV 10 (by decide)
        have q2 := hS.1; have q3 := hS.2.1; have q4 := hS.2.2.1; obtain ⟨q0, q1⟩ := hS.2.2.2.1.two
        go_simp
        exact hK.out _ _ _ rfl rfl rfl (Below.refl _ _)
      simp only [zD, zE, zF]
      refine obs_step (Eq.trans (by simp only [zA, zB, zC]; exact rfl) rfl) rfl (fun w' hS hV K hK => ?_) ?_
      · have e9 : x 9 = (.int .i64 (xa * ya)) := hV 9 (by decide)
        have e11 : x 11 = (.int .i64 (P)) := hV 11 (by decide)
        have q2 := hS.1; have q3 := hS.2.1; have q4 := hS.2.2.1; obtain ⟨q0, q1⟩ := hS.2.2.2.1.two
        go_simp
        exact hK.out _ _ _ rfl rfl rfl (Below.refl _ _)
      simp only [zD, zE, zF]
      refine obs_step (Eq.trans (by simp only [zA, zB, zC]; exact rfl) rfl) rfl (fun w' hS hV K hK => ?_) ?_
      · have q2 := hS.1; have q3 := hS.2.1; have q4 := hS.2.2.1; obtain ⟨q0, q1⟩ := hS.2.2.2.1.two
        go_simp
        exact hK.out _ _ _ rfl rfl rfl (Below.refl _ _)
      simp only [zD, zE, zF]
      refine obs_step (Eq.trans (by simp only [zA, zB, zC]; exact rfl) rfl) rfl (fun w' hS hV K hK => ?_) ?_
      · have e13 : x 13 = (.pointer (some ⟨w.heap.size, 1, none⟩)) := hV 13 (by decide)
        have q2 := hS.1; have q3 := hS.2.1; have q4 := hS.2.2.1; obtain ⟨q0, q1⟩ := hS.2.2.2.1.two
        go_simp
        exact hK.out _ _ _ rfl rfl rfl (Below.refl _ _)
      simp only [zD, zE, zF]
      refine obs_step (Eq.trans (by simp only [zA, zB, zC]; exact rfl) rfl) rfl (fun w' hS hV K hK => ?_) ?_
      · have q2 := hS.1; have q3 := hS.2.1; have q4 := hS.2.2.1; obtain ⟨q0, q1⟩ := hS.2.2.2.1.two
        go_simp
        exact hK.out _ _ _ rfl rfl rfl (Below.refl _ _)
      simp only [zD, zE, zF]
      refine obs_step (Eq.trans (by simp only [zA, zB, zC]; exact rfl) rfl) rfl (fun w' hS hV K hK => ?_) ?_
      · have e14 : x 14 = (.slice (some ⟨g3, o3, none⟩) n c) := hV 14 (by decide)
        have e15 : x 15 = (.int .i64 (j)) := hV 15 (by decide)
        have q2 := hS.1; have q3 := hS.2.1; have q4 := hS.2.2.1; obtain ⟨q0, q1⟩ := hS.2.2.2.1.two
        go_simp
        exact hK.out _ _ _ rfl rfl rfl (Below.refl _ _)
      simp only [zD, zE, zF]
      refine obs_step (Eq.trans (by simp only [zA, zB, zC]; exact rfl) rfl) rfl (fun w' hS hV K hK => ?_) ?_
      · have e16 : x 16 = (.pointer (some ⟨g3, o3 + j, none⟩)) := hV 16 (by decide)
        have q2 := hS.1; have q3 := hS.2.1; have q4 := hS.2.2.1; obtain ⟨q0, q1⟩ := hS.2.2.2.1.two
        go_simp
        exact hK.out _ _ _ rfl rfl rfl (Below.refl _ _)
      simp only [zD, zE, zF]
      refine obs_step (Eq.trans (by simp only [zA, zB, zC]; exact rfl) rfl) rfl (fun w' hS hV K hK => ?_) ?_
      · have e12 : x 12 = (.int .i64 (xa * ya % P)) := hV 12 (by decide)
        have e17 : x 17 = (.int .i64 (za)) := hV 17 (by decide)
        have q2 := hS.1; have q3 := hS.2.1; have q4 := hS.2.2.1; obtain ⟨q0, q1⟩ := hS.2.2.2.1.two
        go_simp
        exact hK.out _ _ _ rfl rfl rfl (Below.refl _ _)
      simp only [zD, zE, zF]
      refine obs_step (Eq.trans (by simp only [zA, zB, zC]; exact rfl) rfl) rfl (fun w' hS hV K hK => ?_) ?_
      · have e0 : x 0 = (.int .i64 (s)) := hV 0 (by decide)
        have e18 : x 18 = (.int .i64 (xa * ya % P * za)) := hV 18 (by decide)
        have q2 := hS.1; have q3 := hS.2.1; have q4 := hS.2.2.1; obtain ⟨q0, q1⟩ := hS.2.2.2.1.two
        go_simp
        exact hK.out _ _ _ rfl rfl rfl (Below.refl _ _)
      simp only [zD, zE, zF]
      refine obs_step (Eq.trans (by simp only [zA, zB, zC]; exact rfl) rfl) rfl (fun w' hS hV K hK => ?_) ?_
      · have q2 := hS.1; have q3 := hS.2.1; have q4 := hS.2.2.1; obtain ⟨q0, q1⟩ := hS.2.2.2.1.two
        go_simp
        exact hK.out _ _ _ rfl rfl rfl (Below.refl _ _)
      simp only [zD, zE, zF]
      refine obs_step (Eq.trans (by simp only [zA, zB, zC]; exact rfl) rfl) rfl (fun w' hS hV K hK => ?_) ?_
      · have e20 : x 20 = (.pointer (some ⟨w.heap.size, 0, none⟩)) := hV 20 (by decide)
        have q2 := hS.1; have q3 := hS.2.1; have q4 := hS.2.2.1; obtain ⟨q0, q1⟩ := hS.2.2.2.1.two
        go_simp
        exact hK.out _ _ _ rfl rfl rfl (Below.refl _ _)
      simp only [zD, zE, zF]
      refine obs_step (Eq.trans (by simp only [zA, zB, zC]; exact rfl) rfl) rfl (fun w' hS hV K hK => ?_) ?_
      · have e19 : x 19 = (.int .i64 (s + xa * ya % P * za)) := hV 19 (by decide)
        have e21 : x 21 = (.int .i64 (P)) := hV 21 (by decide)
        have q2 := hS.1; have q3 := hS.2.1; have q4 := hS.2.2.1; obtain ⟨q0, q1⟩ := hS.2.2.2.1.two
        go_simp
        exact hK.out _ _ _ rfl rfl rfl (Below.refl _ _)
      simp only [zD, zE, zF]
      refine fun w' hS hV => ?_
      have e0 : x 0 = (.int .i64 (s)) := hV 0 (by decide)
      have e1 : x 1 = (.slice (some ⟨g, o, none⟩) n cx) := hV 1 (by decide)
      have e2 : x 2 = (.int .i64 (j)) := hV 2 (by decide)
      have e3 : x 3 = (.pointer (some ⟨g, o + j, none⟩)) := hV 3 (by decide)
      have e4 : x 4 = (.int .i64 (xa)) := hV 4 (by decide)
      have e5 : x 5 = (.slice (some ⟨g2, o2, none⟩) n cy) := hV 5 (by decide)
      have e6 : x 6 = (.int .i64 (j)) := hV 6 (by decide)
      have e7 : x 7 = (.pointer (some ⟨g2, o2 + j, none⟩)) := hV 7 (by decide)
      have e8 : x 8 = (.int .i64 (ya)) := hV 8 (by decide)
      have e9 : x 9 = (.int .i64 (xa * ya)) := hV 9 (by decide)
      have e10 : x 10 = (.pointer (some ⟨w.heap.size, 0, none⟩)) := hV 10 (by decide)
      have e11 : x 11 = (.int .i64 (P)) := hV 11 (by decide)
      have e12 : x 12 = (.int .i64 (xa * ya % P)) := hV 12 (by decide)
      have e13 : x 13 = (.pointer (some ⟨w.heap.size, 1, none⟩)) := hV 13 (by decide)
      have e14 : x 14 = (.slice (some ⟨g3, o3, none⟩) n c) := hV 14 (by decide)
      have e15 : x 15 = (.int .i64 (j)) := hV 15 (by decide)
      have e16 : x 16 = (.pointer (some ⟨g3, o3 + j, none⟩)) := hV 16 (by decide)
      have e17 : x 17 = (.int .i64 (za)) := hV 17 (by decide)
      have e18 : x 18 = (.int .i64 (xa * ya % P * za)) := hV 18 (by decide)
      have e19 : x 19 = (.int .i64 (s + xa * ya % P * za)) := hV 19 (by decide)
      have e20 : x 20 = (.pointer (some ⟨w.heap.size, 0, none⟩)) := hV 20 (by decide)
      have e21 : x 21 = (.int .i64 (P)) := hV 21 (by decide)
      have e22 : x 22 = (.int .i64 ((s + xa * ya % P * za) % P)) := hV 22 (by decide)
      simp only [e0, e1, e2, e3, e4, e5, e6, e7, e8, e9, e10, e11, e12, e13, e14, e15, e16, e17, e18, e19, e20, e21, e22]
      clear e0 e1 e2 e3 e4 e5 e6 e7 e8 e9 e10 e11 e12 e13 e14 e15 e16 e17 e18 e19 e20 e21 e22
      refine any_one (j := 23) (by kernel_rfl) (Eq.trans (by simp only [zA, zB, zC]; exact rfl) rfl) (fun K hK => ?_)
      go_simp
      refine hK.out _ _ (wpAny_done (by kernel_rfl) ?_ _)
      have k3 := hS.2.2.2.1
      have HB3 := Lib.hid (hB1.trans (hS.2.2.2.2.mono hB1.size))
      clear W1 W2 W3 T1 T2 hS
      go_wp2
      go_roundw
      case rel => exact ⟨j + 1, by omega, by go_num, by rw [HST.out], HB3.out, k3⟩
      case measure => simp [intOf]; omega
    · obtain rfl : j = n := by omega
      clear hst
      go_wp2
      go_ret
      exact ⟨ret_int (HEN.out trivial).symm, hB1⟩
end Go.Proofs.YtdbibmilicjllaaGreat
namespace Go.Proofs.YtdbibmilicjllaaGreat
theorem cg_add {p a b c d : Int} (h : a % p = b % p) (h' : c % p = d % p) : (a + c) % p = (b + d) % p := by rw [Int.add_emod, h, h', ← Int.add_emod]
theorem cg_mul {p a b c d : Int} (h : a % p = b % p) (h' : c % p = d % p) : a * c % p = b * d % p := by rw [Int.mul_emod, h, h', ← Int.mul_emod]
theorem cg_self (p a : Int) : a % p % p = a % p := Int.emod_emod_of_dvd _ (Int.dvd_refl p)
theorem sumTo_two {n : Nat} {f : Nat → Int} (a b : Nat) (ha : a < n) (hb : b < n) (hab : a ≠ b) (h : ∀ i, i < n → i ≠ a → i ≠ b → f i = 0) : sumTo n f = f a + f b := by
  have e : sumTo n f = sumTo n (fun i => (if i = a then f i else 0) + (if i = a then 0 else f i)) := sumTo_congr fun i _ => by split <;> omega
  rw [e, sumTo_add, sumTo_one (f := fun i => if i = a then f i else 0) a ha (fun i _ hi => if_neg hi), sumTo_one (f := fun i => if i = a then 0 else f i) b hb (fun i hi hib => by
    by_cases hia : i = a
    · exact if_pos hia
    · simp only [if_neg hia]; exact h i hi hia hib)]
  rw [if_pos rfl, if_neg (Ne.symm hab)]
theorem getD_app_left {α : Type} (d : α) {xs : List α} (ys : List α) {i : Nat} (h : i < xs.length) : (xs ++ ys).getD i d = xs.getD i d := by
  rw [getD_of_lt d h, getD_of_lt d (by rw [List.length_append]; omega), List.getElem_append_left h]
/-- A sum of multiples of the rows. -/
def Sp (p : Int) (n : Nat) (m : List (List Int)) (v : Nat → Int) : Prop := ∃ c : Nat → Int, ∀ q, q < n → v q % p = (sumTo m.length fun i => c i * ent m i q) % p
theorem Sp.congr {p : Int} {n : Nat} {m : List (List Int)} {v u : Nat → Int} (h : Sp p n m v) (e : ∀ q, q < n → v q % p = u q % p) : Sp p n m u := by
  obtain ⟨c, hc⟩ := h
  exact ⟨c, fun q hq => (e q hq).symm.trans (hc q hq)⟩
theorem Sp.zero (p : Int) (n : Nat) (m : List (List Int)) : Sp p n m fun _ => 0 := ⟨fun _ => 0, fun q _ => by rw [sumTo_zero fun i _ => Int.zero_mul _]⟩
theorem Sp.add {p : Int} {n : Nat} {m : List (List Int)} {v u : Nat → Int} (h : Sp p n m v) (h' : Sp p n m u) : Sp p n m fun q => v q + u q := by
  obtain ⟨c, hc⟩ := h
  obtain ⟨d, hd⟩ := h'
  refine ⟨fun i => c i + d i, fun q hq => ?_⟩
  rw [sumTo_congr (g := fun i => c i * ent m i q + d i * ent m i q) fun i _ => Int.add_mul _ _ _, sumTo_add]
  exact cg_add (hc q hq) (hd q hq)
theorem Sp.mul {p : Int} {n : Nat} {m : List (List Int)} {v : Nat → Int} (h : Sp p n m v) (k : Int) : Sp p n m fun q => k * v q := by
  obtain ⟨c, hc⟩ := h
  refine ⟨fun i => k * c i, fun q hq => ?_⟩
  rw [sumTo_congr (g := fun i => k * (c i * ent m i q)) fun i _ => Int.mul_assoc _ _ _, sumTo_mul]
  exact cg_mul rfl (hc q hq)
theorem Sp.row {p : Int} {n : Nat} {m : List (List Int)} {i : Nat} (hi : i < m.length) : Sp p n m fun q => ent m i q := by
  refine ⟨fun j => if j = i then 1 else 0, fun q _ => ?_⟩
  rw [sumTo_one (f := fun j => (if j = i then 1 else 0) * ent m j q) i hi (fun j _ hj => by simp only [if_neg hj, Int.zero_mul])]
  simp
theorem Sp.mem {p : Int} {n : Nat} {m : List (List Int)} {x : List Int} (hx : x ∈ m) : Sp p n m fun q => x.getD q 0 := by
  obtain ⟨i, hi, rfl⟩ := List.getElem_of_mem hx
  refine (Sp.row hi).congr fun q _ => ?_
  unfold ent; rw [getD_of_lt [] hi]
theorem Sp.sum {p : Int} {n : Nat} {m : List (List Int)} (k : Nat) {f : Nat → Nat → Int} (h : ∀ i, i < k → Sp p n m (f i)) : Sp p n m fun q => sumTo k fun i => f i q := by
  induction k with
  | zero => exact Sp.zero p n m
  | succ k ih => exact (ih fun i hi => h i (by omega)).add (h k (by omega))
/-- All rows of the first are made of those of the second. -/
def InSp (p : Int) (n : Nat) (m m' : List (List Int)) : Prop := ∀ i, i < m.length → Sp p n m' fun q => ent m i q
theorem InSp.sp {p : Int} {n : Nat} {m m' : List (List Int)} (h : InSp p n m m') {v : Nat → Int} (hv : Sp p n m v) : Sp p n m' v := by
  obtain ⟨c, hc⟩ := hv
  exact (Sp.sum m.length fun i hi => (h i hi).mul (c i)).congr fun q hq => (hc q hq).symm
theorem InSp.refl (p : Int) (n : Nat) (m : List (List Int)) : InSp p n m m := fun _ hi => Sp.row hi
theorem InSp.trans {p : Int} {n : Nat} {m m' m2 : List (List Int)} (h : InSp p n m m') (h' : InSp p n m' m2) : InSp p n m m2 := fun i hi => h'.sp (h i hi)
theorem InSp.of_mem {p : Int} {n : Nat} {m m' : List (List Int)} (h : ∀ x ∈ m, Sp p n m' fun q => x.getD q 0) : InSp p n m m' := fun i hi =>
  (h _ (List.getElem_mem hi)).congr fun q _ => by unfold ent; rw [getD_of_lt [] hi]
theorem InSp.of_sub {p : Int} {n : Nat} {m m' : List (List Int)} (h : ∀ x ∈ m, x ∈ m') : InSp p n m m' := InSp.of_mem fun x hx => Sp.mem (h x hx)
theorem InSp.append {p : Int} {n : Nat} {m1 m2 m' : List (List Int)} (h1 : InSp p n m1 m') (h2 : InSp p n m2 m') : InSp p n (m1 ++ m2) m' := InSp.of_mem fun x hx => by
  rcases List.mem_append.1 hx with h | h
  · exact h1.sp (Sp.mem h)
  · exact h2.sp (Sp.mem h)
/-- Two numbers that have the same remainder and are remainders. -/
theorem cg_eq {p a b : Int} (ha : 0 ≤ a ∧ a < p) (hb : 0 ≤ b ∧ b < p) (h : a % p = b % p) : a = b := by
  rwa [Int.emod_eq_of_lt ha.1 ha.2, Int.emod_eq_of_lt hb.1 hb.2] at h
theorem scaledAt_in {p : Int} (hP : isP p = true) {n : Nat} {m : List (List Int)} (hT : Tab p n m) {k d : Nat} (hd : d < m.length) (hv : pivOf m k d < m.length) :
    InSp p n (scaledAt p m k d) m ∧ InSp p n m (scaledAt p m k d) := by
  have hp : 2 ≤ p := by have := isP_ge hP; omega
  have hlen := scaledAt_len p m k d
  have hE := fun r q hq => ent_scaled (p := p) (k := k) rfl hd hv hT r q hq
  obtain ⟨hb1, hb2⟩ := pivOf_bound m k d (by omega)
  have hx : ent m (pivOf m k d) k ≠ 0 := piv_at m k _ _ (by unfold pivOf at hv; omega)
  obtain ⟨x1, x2⟩ := hT.ent (by omega) (pivOf m k d) k
  obtain ⟨i1, i2, i3⟩ := inv_spec hP (show 0 < ent m (pivOf m k d) k by omega) x2
  have hinv : ent m (pivOf m k d) k * invF p (ent m (pivOf m k d) k) % p = 1 := (i3 _ (by omega) i2).2 rfl
  obtain ⟨v, hv'⟩ : ∃ v, v = pivOf m k d := ⟨_, rfl⟩
  rw [← hv'] at hE hx x1 x2 hinv hv hb1 hb2
  obtain ⟨y, hy⟩ : ∃ y, y = invF p (ent m v k) := ⟨_, rfl⟩
  rw [← hy] at hE hinv
  constructor
  · intro r hr
    rw [hlen] at hr
    by_cases h1 : r = d
    · refine ((Sp.row hv).mul y).congr fun q hq => ?_
      rw [hE r q hq, if_pos h1, cg_self, Int.mul_comm]
    · by_cases h2 : r = v
      · refine (Sp.row hd).congr fun q hq => ?_
        rw [hE r q hq, if_neg h1, if_pos h2]
      · refine (Sp.row hr).congr fun q hq => ?_
        rw [hE r q hq, if_neg h1, if_neg h2]
  · intro r hr
    by_cases h2 : r = v
    · refine ((Sp.row (show d < (scaledAt p m k d).length by omega)).mul (ent m v k)).congr fun q hq => ?_
      rw [hE d q hq, if_pos rfl, h2]
      have e1 : ent m v k * (ent m v q * y % p) % p = ent m v k * (ent m v q * y) % p := cg_mul rfl (cg_self _ _)
      have e2 : ent m v k * (ent m v q * y) = ent m v q * (ent m v k * y) := by rw [Int.mul_comm (ent m v q) y, ← Int.mul_assoc, Int.mul_comm]
      rw [e1, e2]
      have e3 : ent m v q * (ent m v k * y) % p = ent m v q * 1 % p := cg_mul rfl (by rw [hinv, Int.emod_eq_of_lt (by omega) (by omega)])
      rw [e3, Int.mul_one]
    · by_cases h1 : r = d
      · refine (Sp.row (show v < (scaledAt p m k d).length by omega)).congr fun q hq => ?_
        rw [hE v q hq, if_neg (fun e => h2 (h1.trans e.symm)), if_pos rfl, h1]
      · refine (Sp.row (show r < (scaledAt p m k d).length by omega)).congr fun q hq => ?_
        rw [hE r q hq, if_neg h1, if_neg h2]
theorem clearTo_in {p : Int} {n : Nat} {m : List (List Int)} (hT : Tab p n m) {k d : Nat} (hd : d < m.length) :
    InSp p n (clearTo p m d k m.length) m ∧ InSp p n m (clearTo p m d k m.length) := by
  have hlen := clearTo_len p m d k m.length
  have hE := fun r q hr hq => ent_cleared (p := p) hT d k r q hr hq
  constructor
  · intro r hr
    rw [hlen] at hr
    by_cases h1 : r = d
    · refine (Sp.row hd).congr fun q hq => ?_
      rw [hE r q hr hq, if_pos h1]
    · refine ((Sp.row hr).add ((Sp.row hd).mul (-(ent m r k)))).congr fun q hq => ?_
      rw [hE r q hr hq, if_neg h1, cg_self]
  · intro r hr
    by_cases h1 : r = d
    · refine (Sp.row (show d < (clearTo p m d k m.length).length by omega)).congr fun q hq => ?_
      rw [hE d q hd hq, if_pos rfl, h1]
    · refine ((Sp.row (show r < (clearTo p m d k m.length).length by omega)).add ((Sp.row (show d < (clearTo p m d k m.length).length by omega)).mul (ent m r k))).congr fun q hq => ?_
      rw [hE r q hr hq, if_neg h1, hE d q hd hq, if_pos rfl]
      refine (cg_add (cg_self _ _) rfl).trans ?_
      congr 1
      rw [Int.neg_mul]; omega
theorem stepB_in {p : Int} (hP : isP p = true) {n : Nat} {s : List (List Int) × Nat} {k : Nat} (hT : Tab p n s.1) (hd : s.2 ≤ s.1.length) : InSp p n (stepB p k s).1 s.1 ∧ InSp p n s.1 (stepB p k s).1 := by
  unfold stepB
  split
  · exact ⟨InSp.refl _ _ _, InSp.refl _ _ _⟩
  · rename_i hne
    have hb := pivOf_bound s.1 k s.2 hd
    have hp : 2 ≤ p := by have := isP_ge hP; omega
    obtain ⟨a1, a2⟩ := scaledAt_in (k := k) hP hT (show s.2 < s.1.length by omega) (by omega)
    obtain ⟨b1, b2⟩ := clearTo_in (k := k) (d := s.2) (scaledAt_tab (p := p) (k := k) (by omega) hT (show s.2 < s.1.length by omega) (by omega)) (by rw [scaledAt_len]; omega)
    rw [scaledAt_len] at b1 b2
    exact ⟨b1.trans a1, a2.trans b2⟩
theorem basisTo_in {p : Int} (hP : isP p = true) {n : Nat} (m : List (List Int)) (hT : Tab p n m) (k : Nat) (hk : k ≤ n) : InSp p n (basisTo p m k).1 m ∧ InSp p n m (basisTo p m k).1 := by
  have hp : 2 ≤ p := by have := isP_ge hP; omega
  induction k with
  | zero => exact ⟨InSp.refl _ _ _, InSp.refl _ _ _⟩
  | succ k ih =>
    obtain ⟨h1, h2⟩ := ih (by omega)
    obtain ⟨t1, t2, t3⟩ := basisTo_inv (p := p) (by omega) m hT k
    obtain ⟨g1, g2⟩ := stepB_in (k := k) hP (s := basisTo p m k) t1 (by omega)
    exact ⟨g1.trans h1, h2.trans g2⟩
/-- The reduced basis makes what the rows make. -/
theorem basisL_in {p : Int} (hP : isP p = true) {n : Nat} (m : List (List Int)) (hT : Tab p n m) : InSp p n (basisL p m) m ∧ InSp p n m (basisL p m) := by
  have hp : 2 ≤ p := by have := isP_ge hP; omega
  by_cases h0 : 0 < m.length
  · have hl := row0_len hT h0
    obtain ⟨a1, a2⟩ := basisTo_in hP m hT n (Nat.le_refl _)
    obtain ⟨c, hc⟩ := basisTo_ech hP m hT n (Nat.le_refl _)
    obtain ⟨h1, h2, h3⟩ := basisTo_inv (p := p) (by omega) m hT n
    have e : basisL p m = (basisTo p m n).1.take (basisTo p m n).2 := by unfold basisL; rw [hl]
    constructor
    · refine InSp.trans (InSp.of_sub fun x hx => ?_) a1
      rw [e] at hx
      exact List.mem_of_mem_take hx
    · refine a2.trans fun i hi => ?_
      by_cases hid : i < (basisTo p m n).2
      · refine (Sp.mem (x := (basisTo p m n).1[i]) ?_).congr fun q _ => by unfold ent; rw [getD_of_lt [] hi]
        rw [e]
        exact List.mem_take_iff_getElem.2 ⟨i, by omega, rfl⟩
      · exact (Sp.zero _ _ _).congr fun q hq => by rw [hc.rest i (by omega) hi q hq]
  · obtain rfl : m = [] := List.eq_nil_of_length_eq_zero (by omega)
    rw [basisL_nil]
    exact ⟨InSp.refl _ _ _, InSp.refl _ _ _⟩
/-- What a reduced basis makes is told by its numbers at the places of the firsts. -/
theorem Red.coef {p : Int} {n : Nat} {B : List (List Int)} (hR : Red n B) {v : Nat → Int} (hv : Sp p n B v) : ∀ q, q < n → v q % p = (sumTo B.length fun i => v (ld B i) * ent B i q) % p := by
  obtain ⟨c, hc⟩ := hv
  intro q hq
  rw [hc q hq]
  refine sumTo_mod p fun i hi => cg_mul ?_ rfl
  rw [hc _ (hR.lt i hi), sumTo_one (f := fun j => c j * ent B j (ld B i)) i hi (fun j hj hji => by rw [hR.zero i j hi hj hji, Int.mul_zero]), hR.one i hi, Int.mul_one]
theorem Red.lead_of {p : Int} {n : Nat} {B : List (List Int)} (hR : Red n B) {v : Nat → Int} (hv : Sp p n B v) {q0 : Nat} (hq : q0 < n) (h0 : v q0 % p ≠ 0) (hb : ∀ q, q < q0 → v q % p = 0) : ∃ i, i < B.length ∧ ld B i = q0 := by
  refine Classical.byContradiction fun hno => h0 ?_
  rw [hR.coef hv q0 hq]
  refine (sumTo_mod p (g := fun _ => 0) fun i hi => ?_).trans (by rw [sumTo_zero fun _ _ => rfl]; rfl)
  rcases Nat.lt_trichotomy (ld B i) q0 with h | h | h
  · rw [Int.mul_emod, hb _ h]; simp
  · exact absurd ⟨i, hi, h⟩ hno
  · rw [hR.before i q0 h, Int.mul_zero]
theorem Red.leads_le {p : Int} (hp : 2 ≤ p) {n : Nat} {B C : List (List Int)} (hB : Red n B) (hC : Red n C) (h1 : InSp p n B C) (h2 : InSp p n C B) : ∀ i, i < B.length → i < C.length ∧ ld C i = ld B i := by
  have one : ∀ (B C : List (List Int)), Red n B → Red n C → InSp p n B C → ∀ i, i < B.length → ∃ j, j < C.length ∧ ld C j = ld B i := fun B C hB hC h i hi =>
    hC.lead_of (h i hi) (hB.lt i hi) (by rw [hB.one i hi, Int.emod_eq_of_lt (by omega) (by omega)]; omega) (fun q hq => by rw [hB.before i q hq]; simp)
  intro i
  induction i using Nat.strongRecOn with
  | _ i ih =>
    intro hi
    obtain ⟨j, hj, e⟩ := one B C hB hC h1 i hi
    have hij : i ≤ j := by
      refine Nat.le_of_not_lt fun hlt => ?_
      have := (ih j hlt (by omega)).2
      have := hB.inj (i := j) (j := i) (by omega) hi (by omega)
      omega
    have hic : i < C.length := by omega
    refine ⟨hic, ?_⟩
    rcases Nat.lt_or_ge i j with hlt | hge
    · obtain ⟨k, hk, e2⟩ := one C B hC hB h2 i hic
      have m1 := hC.mono i j hlt hj
      rcases Nat.lt_trichotomy k i with h | h | h
      · have := (ih k h (by omega)).2
        have := hC.inj (i := k) (j := i) (by omega) hic (by omega)
        omega
      · subst h; omega
      · have := hB.mono i k h hk; omega
    · obtain rfl : i = j := by omega
      exact e
/-- There is only one reduced basis. -/
theorem Red.unique {p : Int} (hp : 2 ≤ p) {n : Nat} {B C : List (List Int)} (hB : Red n B) (hC : Red n C) (TB : Tab p n B) (TC : Tab p n C) (h1 : InSp p n B C) (h2 : InSp p n C B) : B = C := by
  have a := hB.leads_le hp hC h1 h2
  have b := hC.leads_le hp hB h2 h1
  have hl : B.length = C.length := by
    rcases Nat.lt_trichotomy B.length C.length with h | h | h
    · have := (b B.length h).1; omega
    · exact h
    · have := (a C.length h).1; omega
  refine list_ext_getD [] hl fun i hi => ?_
  have hic : i < C.length := by omega
  obtain ⟨r1, r2⟩ := TB.row hi
  obtain ⟨s1, s2⟩ := TC.row hic
  refine list_ext_getD 0 (by omega) fun q hq => ?_
  rw [r1] at hq
  refine cg_eq (p := p) (TB.ent (by omega) i q) (TC.ent (by omega) i q) ?_
  show ent B i q % p = ent C i q % p
  rw [hC.coef (h1 i hi) q hq]
  congr 1
  rw [sumTo_one (f := fun j => ent B i (ld C j) * ent C j q) i hic (fun j hj hji => by
    rw [← (b j hj).2, hB.zero j i (by omega) hi (Ne.symm hji), Int.zero_mul]), (a i hi).2, hB.one i hi, Int.one_mul]
/-- Orthogonal to all rows. -/
def Orth (p : Int) (n : Nat) (m : List (List Int)) (v : Nat → Int) : Prop := ∀ i, i < m.length → (sumTo n fun q => ent m i q * v q) % p = 0
theorem Orth.sp {p : Int} {n : Nat} {m : List (List Int)} {v : Nat → Int} (h : Orth p n m v) {u : Nat → Int} (hu : Sp p n m u) : (sumTo n fun q => u q * v q) % p = 0 := by
  obtain ⟨c, hc⟩ := hu
  have e1 : (sumTo n fun q => u q * v q) % p = (sumTo n fun q => sumTo m.length fun i => c i * (ent m i q * v q)) % p := by
    refine sumTo_mod p fun q hq => ?_
    rw [sumTo_congr (f := fun i => c i * (ent m i q * v q)) (g := fun i => v q * (c i * ent m i q)) (fun i _ => by rw [Int.mul_comm (v q), Int.mul_assoc]), sumTo_mul, Int.mul_comm (v q)]
    exact cg_mul (hc q hq) rfl
  rw [e1, sumTo_comm]
  refine (sumTo_mod p (g := fun _ => 0) fun i hi => ?_).trans (by rw [sumTo_zero fun _ _ => rfl]; rfl)
  rw [sumTo_mul, Int.mul_emod, h i hi]; simp
theorem Orth.of_in {p : Int} {n : Nat} {m m' : List (List Int)} {v : Nat → Int} (h : Orth p n m v) (hi : InSp p n m' m) : Orth p n m' v := fun i hl => h.sp (hi i hl)
theorem freeRow_at {p : Int} {B : List (List Int)} {n f k : Nat} (hk : k < n) : (freeRow p B n f).getD k 0 = if k = f then 1 else match ldIdx B k with | some i => (-(ent B i f)) % p | none => 0 := by
  unfold freeRow freePart
  rw [tab_getD hk]; simp <;> rfl
theorem freeRow_ld {p : Int} {B : List (List Int)} {n f i : Nat} (hR : Red n B) (hi : i < B.length) (hf : isLd B f = false) : (freeRow p B n f).getD (ld B i) 0 = (-(ent B i f)) % p := by
  rw [freeRow_at (hR.lt i hi), if_neg (fun e => by rw [isLd_iff.2 ⟨i, hi, e⟩] at hf; cases hf), ldIdx_some hR hi]
theorem freeRow_own {p : Int} {B : List (List Int)} {n f : Nat} (hf : f < n) : (freeRow p B n f).getD f 0 = 1 := by rw [freeRow_at hf, if_pos rfl]
theorem freeRow_no {p : Int} {B : List (List Int)} {n f k : Nat} (hk : k < n) (hkf : k ≠ f) (hl : isLd B k = false) : (freeRow p B n f).getD k 0 = 0 := by rw [freeRow_at hk, if_neg hkf, ldIdx_none hl]
theorem freeRow_orth {p : Int} {B : List (List Int)} {n f : Nat} (hR : Red n B) (hf : f < n) (hl : isLd B f = false) : Orth p n B fun q => (freeRow p B n f).getD q 0 := fun i hi => by
  have hne : ld B i ≠ f := fun e => by rw [isLd_iff.2 ⟨i, hi, e⟩] at hl; cases hl
  rw [sumTo_two (f := fun q => ent B i q * (freeRow p B n f).getD q 0) (ld B i) f (hR.lt i hi) hf hne (fun q hq h1 h2 => by
    cases hq' : isLd B q with
    | false => simp only [freeRow_no hq h2 hq', Int.mul_zero]
    | true =>
      obtain ⟨j, hj, rfl⟩ := isLd_iff.1 hq'
      simp only [hR.zero j i hj hi (fun e => h1 (by rw [e])), Int.zero_mul]), freeRow_ld hR hi hl, freeRow_own hf, hR.one i hi, Int.one_mul, Int.mul_one]
  refine (cg_add (cg_self _ _) rfl).trans ?_
  rw [Int.add_comm, ← Int.sub_eq_add_neg, Int.sub_self]; rfl
end Go.Proofs.YtdbibmilicjllaaGreat
namespace Go.Proofs.YtdbibmilicjllaaGreat
theorem half_ok {p : Int} (hP : isP p = true) : (p + 1) / 2 * 2 % p = 1 % p := by
  simp only [isP, Bool.or_eq_true, beq_iff_eq] at hP
  rcases hP with (((rfl | rfl) | rfl) | rfl) | rfl <;> decide
theorem inv_mod {p a : Int} (hP : isP p = true) (h : a % p ≠ 0) : a * invF p (a % p) % p = 1 := by
  have h3 := (isP_ge hP).1
  have h1 := Int.emod_nonneg a (show p ≠ 0 by omega)
  have h2 := Int.emod_lt_of_pos a (show 0 < p by omega)
  have hs := inv_spec hP (show 0 < a % p by omega) h2
  have := (hs.2.2 (invF p (a % p)) (by omega) hs.2.1).2 rfl
  rw [Int.mul_emod, Int.emod_emod_of_dvd _ (Int.dvd_refl p)] at this
  rw [Int.mul_emod]
  exact this
section
variable {p : Int} {sq : List Int}
theorem Cl.two (x : Cl p sq) : x + x = (2 : Int) * x := by
  have := Cl.add_sm 1 1 x
  rw [Cl.one_sm] at this
  exact this.symm
theorem Cl.half {x y : Cl p sq} (hP : isP p = true) (h : (2 : Int) * x = (2 : Int) * y) : x = y := by
  have e : ∀ z : Cl p sq, ((p + 1) / 2 : Int) * ((2 : Int) * z) = z := fun z => by rw [Cl.sm_sm, Cl.sm_cg (half_ok hP), Cl.one_sm]
  rw [← e x, h, e y]
theorem Cl.add_back (x y : Cl p sq) (k : Int) : x + k * y + (-k) * y = x := by
  rw [Cl.add_assoc, ← Cl.add_sm, show k + -k = 0 by omega, Cl.zero_sm, Cl.add_zero]
theorem Cl.move {x y z : Cl p sq} {k : Int} (h : x + k * y = z) : x = z + (-k) * y := by rw [← h, Cl.add_back]
theorem Cl.vec_plus (hp : 0 < p) {a b : List Int} (ha : a.length = sq.length) (k : Int) : (Cl.vec hp (plusL p a b k) : Cl p sq) = Cl.vec hp a + k * Cl.vec hp b := Cl.same fun m hm => by
  rw [Cl.vec_co hp _ hm, Cl.add_co _ _ hm, Int.add_emod, Cl.vec_co hp _ hm, Cl.sm_co _ _ hm, Int.mul_emod, Cl.vec_co hp _ hm, ← Int.mul_emod, ← Int.add_emod, ← sumTo_mul, ← sumTo_add]
  refine sumTo_mod p fun i hi => ?_
  by_cases h : m = 2 ^ i
  · rw [if_pos h, if_pos h, if_pos h, plusL_getD _ _ (by omega), Int.emod_emod_of_dvd _ (Int.dvd_refl p)]
  · rw [if_neg h, if_neg h, if_neg h, Int.mul_zero]; rfl
theorem Cl.vec_scale (hp : 0 < p) {a : List Int} (ha : a.length = sq.length) (k : Int) : (Cl.vec hp (scaleL p a k) : Cl p sq) = k * Cl.vec hp a := Cl.same fun m hm => by
  rw [Cl.vec_co hp _ hm, Cl.sm_co _ _ hm, Int.mul_emod, Cl.vec_co hp _ hm, ← Int.mul_emod, ← sumTo_mul]
  refine sumTo_mod p fun i hi => ?_
  by_cases h : m = 2 ^ i
  · rw [if_pos h, if_pos h, scaleL_getD _ (by omega), Int.emod_emod_of_dvd _ (Int.dvd_refl p), Int.mul_comm]
  · rw [if_neg h, if_neg h, Int.mul_zero]
theorem Cl.vec_at (hp : 0 < p) {v : List Int} (hv : NumsL p v) (hl : v.length = sq.length) : partL sq.length (Cl.vec hp v : Cl p sq).l = v := by
  refine list_ext_getD 0 (by rw [partL_len, hl]) fun i hi => ?_
  rw [partL_len] at hi
  have e : (partL sq.length (Cl.vec hp v : Cl p sq).l).getD i 0 = (Cl.vec hp v : Cl p sq).co (2 ^ i) := by
    unfold partL
    rw [getD_of_lt 0 (by simpa using hi), List.getElem_map, List.getElem_range]; rfl
  rw [e, ← Cl.co_mod, Cl.vec_co hp v (two_lt hi), sumTo_one i hi fun j hj hne => if_neg fun e => hne (pow_inj e).symm, if_pos rfl]
  have := hv.getD hp i
  exact Int.emod_eq_of_lt this.1 this.2
theorem Cl.vec_rev (hp : 0 < p) (v : List Int) : (Cl.vec hp v : Cl p sq).rev = Cl.vec hp v := Cl.same fun m hm => by
  rw [Cl.rev_co _ hm, Int.mul_emod, Cl.vec_co hp v hm, ← Int.mul_emod, ← sumTo_mul]
  congr 1
  refine sumTo_congr fun i _ => ?_
  by_cases h : m = 2 ^ i
  · rw [if_pos h, h]
    have : sgR (2 ^ i) = 1 := by unfold sgR; rw [pc_pow]; rfl
    rw [this, Int.one_mul]
  · rw [if_neg h, Int.mul_zero]
theorem Cl.vec_invo (hp : 0 < p) (v : List Int) : (Cl.vec hp v : Cl p sq).invo = (-1 : Int) * Cl.vec hp v := Cl.same fun m hm => by
  rw [Cl.invo_co _ hm, Int.mul_emod, Cl.vec_co hp v hm, ← Int.mul_emod, Cl.sm_co _ _ hm, Int.mul_emod (-1), Cl.vec_co hp v hm, ← Int.mul_emod, ← sumTo_mul, ← sumTo_mul]
  congr 1
  refine sumTo_congr fun i _ => ?_
  by_cases h : m = 2 ^ i
  · rw [if_pos h, h]
    have : sgI (2 ^ i) = -1 := by unfold sgI; rw [pc_pow]; rfl
    rw [this]
  · rw [if_neg h, Int.mul_zero, Int.mul_zero]
theorem Cl.vec_sq (hp : 0 < p) (hP : isP p = true) (v : List Int) : (Cl.vec hp v : Cl p sq) * Cl.vec hp v = bil sq v v * Cl.one hp := by
  refine Cl.half hP ?_
  rw [← Cl.two, Cl.vec_anti, Cl.sm_sm]
/-- What a vector on both sides does to a vector. -/
theorem Cl.vec_both (hp : 0 < p) (hP : isP p = true) (u w : List Int) : (Cl.vec hp u : Cl p sq) * Cl.vec hp w * Cl.vec hp u = (2 * bil sq u w) * Cl.vec hp u + (-(bil sq u u)) * Cl.vec hp w := by
  refine Cl.move ?_
  have h := congrArg (fun z : Cl p sq => z * Cl.vec hp u) (Cl.vec_anti hp u w)
  simp only [Cl.add_mul, Cl.sm_mul, Cl.one_mul] at h
  rw [Cl.mul_assoc (Cl.vec hp w), Cl.vec_sq hp hP, Cl.mul_sm, Cl.mul_one] at h
  exact h
theorem bil_plus {u : List Int} {a b : List Int} (ha : a.length = sq.length) (k : Int) : bil sq (plusL p a b k) u % p = (bil sq a u + k * bil sq b u) % p := by
  unfold bil
  rw [← sumTo_mul, ← sumTo_add]
  refine sumTo_mod p fun i hi => ?_
  rw [plusL_getD _ _ (by omega), Int.mul_assoc, Int.mul_emod, Int.emod_emod_of_dvd _ (Int.dvd_refl p), ← Int.mul_emod, Int.add_mul]
  congr 1
  rw [Int.mul_assoc, Int.mul_assoc, Int.mul_assoc]
theorem pairL_bil {v u : List Int} (hv : v.length = sq.length) : pairL p sq v u % p = bil sq v u % p := by
  rw [pairL_sum hv, Int.emod_emod_of_dvd _ (Int.dvd_refl p)]
  unfold bil
  refine sumTo_mod p fun i _ => ?_
  rw [Int.mul_emod, Int.emod_emod_of_dvd _ (Int.dvd_refl p), ← Int.mul_emod]
/-- The reflection of w in v. -/
def reflF (p : Int) (sq v w : List Int) : List Int := plusL p w v (-(2 * bil sq v w * invF p (bil sq v v % p)))
theorem reflF_len {v w : List Int} : (reflF p sq v w).length = w.length := plusL_len _ _ _ _
theorem reflF_nums (hp : 0 < p) (v w : List Int) : NumsL p (reflF p sq v w) := plusL_nums hp _ _ _
/-- Products of vectors. -/
def Cl.prod (hp : 0 < p) (vs : List (List Int)) : Cl p sq := vs.foldl (fun x v => x * Cl.vec hp v) (Cl.one hp)
theorem Cl.prod_from (hp : 0 < p) (vs : List (List Int)) : ∀ y : Cl p sq, vs.foldl (fun x v => x * Cl.vec hp v) y = y * Cl.prod hp vs := by
  induction vs with
  | nil => intro y; exact (Cl.mul_one hp y).symm
  | cons v vs ih =>
    intro y
    unfold Cl.prod
    rw [List.foldl_cons, ih, List.foldl_cons, ih, Cl.one_mul, Cl.mul_assoc]
theorem Cl.prod_cons (hp : 0 < p) (v : List Int) (vs : List (List Int)) : (Cl.prod hp (v :: vs) : Cl p sq) = Cl.vec hp v * Cl.prod hp vs := by
  have := Cl.prod_from hp vs (Cl.vec hp v : Cl p sq)
  rw [← this]
  unfold Cl.prod
  rw [List.foldl_cons, Cl.one_mul]
theorem Cl.prod_snoc (hp : 0 < p) (v : List Int) (vs : List (List Int)) : (Cl.prod hp (vs ++ [v]) : Cl p sq) = Cl.prod hp vs * Cl.vec hp v := by
  unfold Cl.prod
  rw [List.foldl_append]; rfl
/-- The product of the norms. -/
def nrmP (sq : List Int) : List (List Int) → Int
  | [] => 1
  | v :: vs => bil sq v v * nrmP sq vs
theorem Cl.prod_norm (hp : 0 < p) (hP : isP p = true) (h6 : sq.length ≤ 6) (vs : List (List Int)) : (Cl.prod hp vs : Cl p sq) * (Cl.prod hp vs).rev = nrmP sq vs * Cl.one hp := by
  induction vs with
  | nil => show Cl.one hp * (Cl.one hp).rev = (1 : Int) * Cl.one hp; rw [Cl.one_rev, Cl.mul_one, Cl.one_sm]
  | cons v vs ih =>
    rw [Cl.prod_cons, Cl.rev_mul h6, Cl.vec_rev, Cl.mul_assoc, ← Cl.mul_assoc (Cl.prod hp vs), ih, Cl.sm_mul, Cl.one_mul, Cl.mul_sm, Cl.vec_sq hp hP, Cl.sm_sm]
    show _ = (bil sq v v * nrmP sq vs) * Cl.one hp
    rw [Int.mul_comm]
theorem Cl.prod_invo (hp : 0 < p) (vs : List (List Int)) : (Cl.prod hp vs : Cl p sq).invo = sg vs.length * Cl.prod hp vs := by
  induction vs with
  | nil => show (Cl.one hp).invo = (1 : Int) * Cl.one hp; rw [Cl.one_invo, Cl.one_sm]
  | cons v vs ih =>
    rw [Cl.prod_cons, Cl.invo_mul, ih, Cl.vec_invo, Cl.sm_mul, Cl.mul_sm, Cl.sm_sm, List.length_cons, sg_add]
    congr 1
    show -1 * sg vs.length = sg vs.length * -1
    exact Int.mul_comm _ _
/-- What the product does to a vector: the reflections in its vectors, the last one first. -/
def refls (p : Int) (sq : List Int) (vs : List (List Int)) (w : List Int) : List Int := vs.foldr (fun v w => reflF p sq v w) w
theorem refls_len (vs : List (List Int)) (w : List Int) : (refls p sq vs w).length = w.length := by
  induction vs with
  | nil => rfl
  | cons v vs ih => show (reflF p sq v (refls p sq vs w)).length = _; rw [reflF_len, ih]
theorem refls_nums (hp : 0 < p) (vs : List (List Int)) {w : List Int} (hw : NumsL p w) : NumsL p (refls p sq vs w) := by
  cases vs with
  | nil => exact hw
  | cons v vs => exact reflF_nums hp _ _
theorem Cl.one_refl (hp : 0 < p) (hP : isP p = true) {v w : List Int} (hw : w.length = sq.length) (hv : bil sq v v % p ≠ 0) : (Cl.vec hp v : Cl p sq) * Cl.vec hp w * Cl.vec hp v = (-(bil sq v v)) * Cl.vec hp (reflF p sq v w) := by
  rw [Cl.vec_both hp hP]
  unfold reflF
  rw [Cl.vec_plus hp hw, Cl.sm_add, Cl.sm_sm, Cl.add_comm]
  congr 1
  refine Cl.sm_cg ?_ _
  have h1 := inv_mod hP hv
  have h3 := (isP_ge hP).1
  have h2 : (1 : Int) % p = bil sq v v * invF p (bil sq v v % p) % p := by rw [h1, Int.emod_eq_of_lt (by omega) (by omega)]
  have h4 := cg_mul h2 (show 2 * bil sq v w % p = 2 * bil sq v w % p from rfl)
  rw [Int.one_mul] at h4
  rw [h4, Int.neg_mul_neg]
  congr 1
  rw [Int.mul_assoc, Int.mul_comm (invF p _)]
theorem Cl.prod_acts (hp : 0 < p) (hP : isP p = true) (h6 : sq.length ≤ 6) (vs : List (List Int)) (hvs : ∀ v ∈ vs, bil sq v v % p ≠ 0) {w : List Int} (hw : w.length = sq.length) :
    (Cl.prod hp vs : Cl p sq).invo * Cl.vec hp w * (Cl.prod hp vs).rev = nrmP sq vs * Cl.vec hp (refls p sq vs w) := by
  induction vs with
  | nil =>
    show (Cl.one hp).invo * Cl.vec hp w * (Cl.one hp).rev = (1 : Int) * Cl.vec hp w
    rw [Cl.one_invo, Cl.one_rev, Cl.mul_one, Cl.one_mul, Cl.one_sm]
  | cons v vs ih =>
    have ih := ih fun u hu => hvs u (List.mem_cons_of_mem _ hu)
    rw [Cl.prod_cons, Cl.invo_mul, Cl.rev_mul h6, Cl.vec_rev, Cl.vec_invo]
    have e : (-1 : Int) * Cl.vec hp v * (Cl.prod hp vs).invo * Cl.vec hp w * ((Cl.prod hp vs).rev * Cl.vec hp v) = (-1 : Int) * (Cl.vec hp v * ((Cl.prod hp vs).invo * Cl.vec hp w * (Cl.prod hp vs).rev) * Cl.vec hp v : Cl p sq) := by
      simp only [Cl.sm_mul, Cl.mul_assoc]
    rw [e, ih, Cl.mul_sm, Cl.sm_mul, Cl.one_refl hp hP (by rw [refls_len]; exact hw) (hvs v (List.mem_cons_self ..)), Cl.sm_sm, Cl.sm_sm]
    show _ = (bil sq v v * nrmP sq vs) * Cl.vec hp (reflF p sq v (refls p sq vs w))
    congr 1
    rw [Int.neg_mul, Int.one_mul, Int.mul_neg, Int.neg_mul, Int.neg_neg, Int.mul_comm]
end
end Go.Proofs.YtdbibmilicjllaaGreat
namespace Go.Proofs.YtdbibmilicjllaaGreat
section
variable {p : Int} {sq : List Int}
theorem neg_ne {p : Int} (hP : isP p = true) {a : Int} (ha : 0 ≤ a ∧ a < p) (h0 : a ≠ 0) : a % p ≠ (-a) % p := by
  obtain ⟨a1, a2⟩ := ha
  simp only [isP, Bool.or_eq_true, beq_iff_eq] at hP
  rcases hP with (((rfl | rfl) | rfl) | rfl) | rfl <;> omega
theorem mul_ne {p : Int} (hP : isP p = true) {a b : Int} (ha : a % p ≠ 0) (hb : b % p ≠ 0) : a * b % p ≠ 0 := fun h => by
  have h3 := (isP_ge hP).1
  rw [Int.mul_emod] at h
  rcases mul_zero_mod hP (emod_small a p (by omega)) (emod_small b p (by omega)) h with h | h
  · exact ha h
  · exact hb h
theorem nrmP_ne {p : Int} (hP : isP p = true) (vs : List (List Int)) (hvs : ∀ v ∈ vs, bil sq v v % p ≠ 0) : nrmP sq vs % p ≠ 0 := by
  induction vs with
  | nil =>
    show (1 : Int) % p ≠ 0
    have h3 := (isP_ge hP).1
    rw [Int.emod_eq_of_lt (by omega) (by omega)]; decide
  | cons v vs ih => exact mul_ne hP (hvs v (List.mem_cons_self ..)) (ih fun u hu => hvs u (List.mem_cons_of_mem _ hu))
theorem only_iff {ys : List Int} (hl : ys.length ≤ 64) (k : Nat) : onlyL ys k = true ↔ ∀ i, i < ys.length → pc i ≠ k → ys.getD i 0 = 0 := by
  unfold onlyL
  rw [Bool.not_eq_true', List.any_eq_false]
  constructor
  · intro h i hi hne
    by_cases h0 : ys.getD i 0 = 0
    · exact h0
    · have := h _ ((gradesL_mem ys hl _).2 ⟨i, hi, h0, rfl⟩)
      simp at this
      omega
  · intro h g hg
    obtain ⟨i, hi, h0, rfl⟩ := (gradesL_mem ys hl _).1 hg
    by_cases hp : pc i = k
    · simp [hp]
    · exact absurd (h i hi hp) h0
theorem Cl.only_co (h6 : sq.length ≤ 6) (x : Cl p sq) (k : Nat) : onlyL x.l k = true ↔ ∀ m, m < pw sq.length → pc m ≠ k → x.co m = 0 := by
  rw [only_iff (by rw [x.len]; exact pw_le (k := 6) h6), x.len]; rfl
theorem pc_zero_iff {m : Nat} (h : pc m = 0) : m = 0 := by
  have : ∀ k a, a < 2 ^ k → pc a = 0 → a = 0 := by
    intro k
    induction k with
    | zero => intro a ha _; omega
    | succ k ih =>
      intro a ha hz
      rw [pc_rec] at hz
      have := ih (a / 2) (by rw [Nat.pow_succ] at ha; omega) (by omega)
      omega
  exact this m m Nat.lt_two_pow_self h
/-- Only grade 0: a number. -/
theorem Cl.only_zero (h6 : sq.length ≤ 6) (hp : 0 < p) (x : Cl p sq) : onlyL x.l 0 = true ↔ x = x.co 0 * Cl.one hp := by
  have h := x.only_co h6 0
  refine h.trans ⟨fun h0 => Cl.same fun m hm => ?_, fun e m hm hne => ?_⟩
  · rw [Cl.sm_co _ _ hm, Int.mul_emod, Cl.one_co hp hm, ← Int.mul_emod]
    by_cases hz : m = 0
    · rw [if_pos hz, hz, Int.mul_one]
    · rw [if_neg hz, h0 m hm fun e => hz (pc_zero_iff e), Int.mul_zero]
  · have e1 : x.co m = (x.co 0 * Cl.one hp : Cl p sq).co m := congrArg (fun y : Cl p sq => y.co m) e
    rw [e1, ← Cl.co_mod, Cl.sm_co _ _ hm, Int.mul_emod, Cl.one_co hp hm, ← Int.mul_emod, if_neg fun hz => hne (by rw [hz, pc_zero]), Int.mul_zero, Int.zero_emod]
theorem Cl.vec_only (h6 : sq.length ≤ 6) (hp : 0 < p) (v : List Int) : onlyL (Cl.vec hp v : Cl p sq).l 1 = true := by
  refine (Cl.only_co h6 _ 1).2 fun m hm hne => ?_
  rw [← Cl.co_mod, Cl.vec_co hp _ hm, sumTo_zero fun i _ => if_neg fun e => hne (by rw [e, pc_pow]), Int.zero_emod]
theorem Cl.invo_par (hP : isP p = true) (h6 : sq.length ≤ 6) (x : Cl p sq) (c : Nat) (h : x.invo = sg c * x) : ∀ m, m < pw sq.length → x.co m ≠ 0 → pc m % 2 = c % 2 := fun m hm hne => by
  have h3 := (isP_ge hP).1
  have e1 : x.invo.co m % p = (sg c * x : Cl p sq).co m % p := congrArg (fun y : Cl p sq => y.co m % p) h
  rw [Cl.invo_co _ hm, Cl.sm_co _ _ hm, sgI_sg] at e1
  have hx := x.co_small m
  rcases Nat.mod_two_eq_zero_or_one (pc m) with ha | ha <;> rcases Nat.mod_two_eq_zero_or_one c with hb | hb
  · omega
  · exfalso
    have s1 : sg (pc m) = 1 := by unfold sg; rw [ha]; rfl
    have s2 : sg c = -1 := by unfold sg; rw [hb]; rfl
    rw [s1, s2, Int.one_mul, Int.neg_mul, Int.one_mul] at e1
    exact neg_ne hP hx hne e1
  · exfalso
    have s1 : sg (pc m) = -1 := by unfold sg; rw [ha]; rfl
    have s2 : sg c = 1 := by unfold sg; rw [hb]; rfl
    rw [s1, s2, Int.one_mul, Int.neg_mul, Int.one_mul] at e1
    exact neg_ne hP hx hne e1.symm
  · omega
theorem mixB_none {gs : List Int} {c : Int} (h : ∀ g ∈ gs, g % (2 : Int) = c) : mixB gs = false := by
  unfold mixB
  rw [List.any_eq_false]
  intro g hg
  have h0 : gs.getD 0 0 ∈ gs := getD_mem 0 (List.length_pos_of_mem hg)
  rw [h g hg, h _ h0]
  simp
theorem Cl.mix_none (hP : isP p = true) (h6 : sq.length ≤ 6) (x : Cl p sq) (c : Nat) (h : x.invo = sg c * x) : mixB (gradesL x.l) = false := by
  have hl : x.l.length ≤ 64 := by rw [x.len]; exact pw_le (k := 6) h6
  refine mixB_none (c := (c : Int) % 2) fun g hg => ?_
  obtain ⟨i, hi, h0, rfl⟩ := (gradesL_mem x.l hl g).1 hg
  have := x.invo_par hP h6 c h i (by rw [← x.len]; exact hi) h0
  omega
theorem Cl.nrm_co (x : Cl p sq) : nrmL p sq x.l = (x * x.rev).co 0 := by
  unfold nrmL Cl.co
  rw [Cl.mul_l, Cl.rev_l]
/-- What is told to be a versor. -/
theorem Cl.vers_iff (hP : isP p = true) (hp : 0 < p) (h6 : sq.length ≤ 6) (x : Cl p sq) : versB p sq sq.length x.l = true ↔
    nrmL p sq x.l ≠ 0 ∧ x * x.rev = nrmL p sq x.l * Cl.one hp ∧ mixB (gradesL x.l) = false ∧ ∀ i, i < sq.length → onlyL (x.invo * Cl.vec hp (unitRow sq.length i) * x.rev : Cl p sq).l 1 = true := by
  unfold versB
  have h3 := (isP_ge hP).1
  rw [Bool.and_eq_true, Bool.and_eq_true, Bool.and_eq_true, Bool.not_eq_true', Bool.not_eq_true', List.all_eq_true, beq_eq_false_iff_ne]
  have e1 : mulL p sq x.l (revL p x.l) = (x * x.rev).l := by rw [Cl.mul_l, Cl.rev_l]
  rw [e1, (x * x.rev).only_zero h6 hp, ← Cl.nrm_co, and_assoc, and_assoc]
  refine and_congr_right fun _ => and_congr_right fun _ => and_congr_right fun _ => ?_
  constructor
  · intro h i hi
    have := h i (by simpa using hi)
    unfold imgL at this
    rw [Cl.mul_l, Cl.mul_l, Cl.invo_l, Cl.rev_l, Cl.vec_l hp (unitRow_nums (by omega) _ _)]
    exact this
  · intro h i hi
    have := h i (by simpa using hi)
    rw [Cl.mul_l, Cl.mul_l, Cl.invo_l, Cl.rev_l, Cl.vec_l hp (unitRow_nums (by omega) _ _)] at this
    exact this
/-- A vector is a sum of multiples of unit vectors. -/
def Cl.sum (hp : 0 < p) : Nat → (Nat → Cl p sq) → Cl p sq
  | 0, _ => Cl.zero hp
  | n + 1, f => Cl.sum hp n f + f n
theorem Cl.zero_co (hp : 0 < p) {m : Nat} (hm : m < pw sq.length) : (Cl.zero hp : Cl p sq).co m % p = 0 := by
  unfold Cl.zero; rw [Cl.of_cg _ _ hm, Int.zero_emod]
theorem Cl.sum_co (hp : 0 < p) (f : Nat → Cl p sq) {m : Nat} (hm : m < pw sq.length) : ∀ n, (Cl.sum hp n f).co m % p = (sumTo n fun i => (f i).co m) % p := by
  intro n
  induction n with
  | zero => rw [show Cl.sum hp 0 f = Cl.zero hp from rfl, Cl.zero_co hp hm]; rfl
  | succ n ih =>
    rw [show Cl.sum hp (n + 1) f = Cl.sum hp n f + f n from rfl, Cl.add_co _ _ hm, Int.add_emod, ih, ← Int.add_emod, sumTo_succ]
theorem Cl.zero_mul (hp : 0 < p) (x : Cl p sq) : Cl.zero hp * x = Cl.zero hp := by
  have := Cl.zero_sm (x := (Cl.one hp : Cl p sq))
  rw [← this, Cl.sm_mul, Cl.one_mul, Cl.zero_sm, Cl.zero_sm]
theorem Cl.mul_zero (hp : 0 < p) (x : Cl p sq) : x * Cl.zero hp = Cl.zero hp := by
  have := Cl.zero_sm (x := (Cl.one hp : Cl p sq))
  rw [← this, Cl.mul_sm, Cl.mul_one, Cl.zero_sm, Cl.zero_sm]
/-- Products of vectors are versors. -/
theorem Cl.prod_vers (hP : isP p = true) (hp : 0 < p) (h6 : sq.length ≤ 6) (vs : List (List Int)) (hvs : ∀ v ∈ vs, bil sq v v % p ≠ 0) : versB p sq sq.length (Cl.prod hp vs : Cl p sq).l = true ∧ nrmL p sq (Cl.prod hp vs : Cl p sq).l = nrmP sq vs % p := by
  have hn : nrmL p sq (Cl.prod hp vs : Cl p sq).l = nrmP sq vs % p := by
    rw [Cl.nrm_co, Cl.prod_norm hp hP h6, ← Cl.co_mod, Cl.sm_co _ _ (pw_pos _), Int.mul_emod, Cl.one_co hp (pw_pos _), ← Int.mul_emod, if_pos rfl, Int.mul_one]
  refine ⟨(Cl.vers_iff hP hp h6 _).2 ⟨?_, ?_, Cl.mix_none hP h6 _ _ (Cl.prod_invo hp vs), fun i _ => ?_⟩, hn⟩
  · rw [hn]; exact nrmP_ne hP vs hvs
  · rw [hn, Cl.prod_norm hp hP h6]
    exact Cl.sm_cg (Int.emod_emod_of_dvd _ (Int.dvd_refl p)).symm _
  · rw [Cl.prod_acts hp hP h6 vs hvs (unitRow_len _ _)]
    refine (Cl.only_co h6 _ 1).2 fun m hm hne => ?_
    rw [← Cl.co_mod, Cl.sm_co _ _ hm, (Cl.only_co h6 _ 1).1 (Cl.vec_only h6 hp _) m hm hne, Int.mul_zero, Int.zero_emod]
end
end Go.Proofs.YtdbibmilicjllaaGreat

/-
  LawFnTriality: part 4 of the texts that the proof needs. No condition.
-/
import Derived.Test.YtaiegpggccdgoaaGreatT3
namespace Go.Proofs.YtaiegpggccdgoaaGreat
/-- The conjugate of a vector. -/
def cjV (x : Nat → Int) (i : Nat) : Int := cjS i * x i
def cjOk (i j : Nat) : Bool := cjS (i ^^^ j) * cD (ones 3) 3 i j == cjS i * cjS j * cD (ones 3) 3 j i
theorem cj_all : ((List.range 8).all fun i => (List.range 8).all fun j => cjOk i j) = true := by decide +kernel
theorem cj_one {i j : Nat} (hi : i < 8) (hj : j < 8) : cjS (i ^^^ j) * cD (ones 3) 3 i j = cjS i * cjS j * cD (ones 3) 3 j i := by
 have h := cj_all
 rw [List.all_eq_true] at h
 have h1 := h i (List.mem_range.mpr hi)
 rw [List.all_eq_true] at h1
 exact eq_of_beq (h1 j (List.mem_range.mpr hj))
theorem pw_le8 {k : Nat} (hk : k ≤ 3) : pw k ≤ 8 := by
 have : pw k ≤ pw 3 := by unfold pw; exact Nat.pow_le_pow_right (by omega) hk
 exact this
theorem cD_ones3 {k : Nat} (hk : k ≤ 3) {i j : Nat} (hi : i < pw k) (hj : j < pw k) : cD (ones k) k i j = cD (ones 3) 3 i j := by
 have e := cD_up (ones 3) k hi hj (3 - k)
 rw [show k + (3 - k) = 3 by omega] at e
 rw [e]
 refine cD_congr _ _ _ fun q hq => ?_
 unfold ones
 rw [List.getD_eq_getElem?_getD, List.getElem?_replicate, if_pos hq, List.getD_eq_getElem?_getD, List.getElem?_replicate, if_pos (by omega)]
theorem cj_cD {k : Nat} (hk : k ≤ 3) (st : List Int) {i j : Nat} (hi : i < pw k) (hj : j < pw k) : cjS (i ^^^ j) * cD st k i j = cjS i * cjS j * cD st k j i := by
 have h8 := pw_le8 hk
 rw [cD_parts st k k (Nat.le_refl k) hi hj, cD_parts st k k (Nat.le_refl k) hj hi, cD_ones3 hk hi hj, cD_ones3 hk hj hi, ← Int.mul_assoc, cj_one (by omega) (by omega), Int.mul_assoc]
 rw [prT_congr (f := fun b => st.getD b 0 ^ (bt b i * bt b j)) (g := fun b => st.getD b 0 ^ (bt b j * bt b i)) fun b _ => by rw [Nat.mul_comm], Int.mul_assoc]
/-- The conjugate of a product is that of the conjugates in the other order. -/
theorem cj_mul {k : Nat} (hk : k ≤ 3) (st : List Int) (x y : Nat → Int) {r : Nat} (hr : r < pw k) : cjV (dmulZ st k x y) r = dmulZ st k (cjV y) (cjV x) r := by
 unfold dmulZ
 show cjS r * sumTo (pw k) _ = _
 rw [← sumTo_mul, sumTo_xor (fun i => cjS r * _) hr]
 refine sumTo_congr fun i hi => ?_
 have hir := xor_lt hi hr
 rw [xor_self_right]
 have h := cj_cD hk st hir hi
 rw [show (i ^^^ r) ^^^ i = r by rw [Nat.xor_comm i r, Nat.xor_assoc, Nat.xor_self, Nat.xor_zero]] at h
 show _ = cjS i * y i * (cjS (i ^^^ r) * x (i ^^^ r)) * cD st k i (i ^^^ r)
 have e : cjS r * (x (i ^^^ r) * y i * cD st k (i ^^^ r) i) = x (i ^^^ r) * y i * (cjS r * cD st k (i ^^^ r) i) := by ac_rfl
 rw [e, h]
 ac_rfl
/-- The norm form: the trace of x times the conjugate of y. -/
def nfZ (st : List Int) (k : Nat) (x y : Nat → Int) : Int := dmulZ st k x (cjV y) 0
theorem nfZ_sum (st : List Int) (k : Nat) (x y : Nat → Int) : nfZ st k x y = sumTo (pw k) fun i => cjS i * cD st k i i * x i * y i := by
 unfold nfZ dmulZ
 refine sumTo_congr fun i _ => ?_
 rw [Nat.xor_zero]
 show x i * (cjS i * y i) * _ = _
 ac_rfl
theorem derZ_congr {st : List Int} {k : Nat} {x y z z' : Nat → Int} (h : ∀ i, i < pw k → z i = z' i) {r : Nat} (hr : r < pw k) : derZ st k x y z r = derZ st k x y z' r := by
 unfold derZ cmtZ assZ
 rw [dmulZ_congr (fun _ _ => rfl) h hr, dmulZ_congr h (fun _ _ => rfl) hr, dmulZ_congr (x := dmulZ st k x y) (fun _ _ => rfl) h hr]
 rw [dmulZ_congr (x := x) (y := dmulZ st k y z) (y' := dmulZ st k y z') (fun _ _ => rfl) (fun i hi => dmulZ_congr (fun _ _ => rfl) h hi) hr]
theorem derZ_lin (st : List Int) (k : Nat) (x y z w : Nat → Int) (c d : Int) (r : Nat) : derZ st k x y (fun i => c * z i + d * w i) r = c * derZ st k x y z r + d * derZ st k x y w r := by
 have hr : ∀ u : Nat → Int, dmulZ st k u (fun i => c * z i + d * w i) = fun i => c * dmulZ st k u z i + d * dmulZ st k u w i := fun u => funext fun i => by
  rw [dmulZ_add_right st k u (fun i => c * z i) (fun i => d * w i), dmulZ_mul_right, dmulZ_mul_right]
 have hl : ∀ u : Nat → Int, dmulZ st k (fun i => c * z i + d * w i) u = fun i => c * dmulZ st k z u i + d * dmulZ st k w u i := fun u => funext fun i => by
  rw [dmulZ_add_left st k (fun i => c * z i) (fun i => d * w i), dmulZ_mul_left, dmulZ_mul_left]
 have hr2 : dmulZ st k x (fun i => c * dmulZ st k y z i + d * dmulZ st k y w i) r = c * dmulZ st k x (dmulZ st k y z) r + d * dmulZ st k x (dmulZ st k y w) r := by
  rw [dmulZ_add_right st k x (fun i => c * dmulZ st k y z i) (fun i => d * dmulZ st k y w i), dmulZ_mul_right, dmulZ_mul_right]
 unfold derZ cmtZ assZ
 rw [hr, hl, hr, hr, hr2]
 simp only [Int.mul_add, Int.neg_mul, Int.one_mul, Int.mul_neg, Int.mul_left_comm c, Int.mul_left_comm d]
 omega
/-- Left products with a vector that has no trace are skew. -/
theorem left_skew {k : Nat} (hk : k ≤ 3) (st : List Int) (x a b : Nat → Int) (hx : x 0 = 0) : nfZ st k (dmulZ st k x a) b + nfZ st k a (dmulZ st k x b) = 0 := by
 have hc : ∀ i, i < pw k → cjV x i = -1 * x i := fun i _ => by
  unfold cjV cjS
  by_cases h : i = 0
  · rw [if_pos h, h, hx]; rfl
  · rw [if_neg h]
 have e1 : nfZ st k a (dmulZ st k x b) = dmulZ st k a (dmulZ st k (cjV b) (fun i => -1 * x i)) 0 := dmulZ_congr (fun _ _ => rfl) (fun i hi => by
  rw [cj_mul hk st x b hi]
  exact dmulZ_congr (fun _ _ => rfl) hc hi) (pw_pos k)
 have e2 : dmulZ st k a (dmulZ st k (cjV b) (fun i => -1 * x i)) 0 = -1 * dmulZ st k a (dmulZ st k (cjV b) x) 0 := by
  rw [show dmulZ st k (cjV b) (fun i => -1 * x i) = fun r => -1 * dmulZ st k (cjV b) x r from funext fun r => dmulZ_mul_right st k _ _ _ r, dmulZ_mul_right]
 rw [e1, e2]
 unfold nfZ
 rw [trZ_cyc hk, ← trZ_assoc hk, trZ_cyc hk]
 have := trZ_cyc hk st (cjV b) x a
 have h3 := trZ_cyc hk st a (cjV b) x
 omega
/-- So are right products. -/
theorem right_skew {k : Nat} (hk : k ≤ 3) (st : List Int) (x a b : Nat → Int) (hx : x 0 = 0) : nfZ st k (dmulZ st k a x) b + nfZ st k a (dmulZ st k b x) = 0 := by
 have hc : ∀ i, i < pw k → cjV x i = -1 * x i := fun i _ => by
  unfold cjV cjS
  by_cases h : i = 0
  · rw [if_pos h, h, hx]; rfl
  · rw [if_neg h]
 have e1 : nfZ st k a (dmulZ st k b x) = dmulZ st k a (dmulZ st k (fun i => -1 * x i) (cjV b)) 0 := dmulZ_congr (fun _ _ => rfl) (fun i hi => by
  rw [cj_mul hk st b x hi]
  exact dmulZ_congr hc (fun _ _ => rfl) hi) (pw_pos k)
 have e2 : dmulZ st k a (dmulZ st k (fun i => -1 * x i) (cjV b)) 0 = -1 * dmulZ st k a (dmulZ st k x (cjV b)) 0 := by
  rw [show dmulZ st k (fun i => -1 * x i) (cjV b) = fun r => -1 * dmulZ st k x (cjV b) r from funext fun r => dmulZ_mul_left st k _ _ _ r, dmulZ_mul_right]
 rw [e1, e2]
 unfold nfZ
 rw [trZ_assoc hk]
 omega
/-- So are inner derivations. -/
theorem der_skew {k : Nat} (hk : k ≤ 3) (st : List Int) (x y a b : Nat → Int) : nfZ st k (derZ st k x y a) b + nfZ st k a (derZ st k x y b) = 0 := by
 have hb : ∀ i, i < pw k → derZ st k x y (cjV b) i = cjV (derZ st k x y b) i := fun i hi => by
  have e : derZ st k x y (cjV b) i = derZ st k x y (fun j => 2 * b 0 * bsE 0 j + -1 * b j) i := derZ_congr (fun j _ => by
   unfold cjV cjS bsE
   by_cases h : j = 0
   · rw [if_pos h, if_pos h, h]; omega
   · rw [if_neg h, if_neg h]; omega) hi
  rw [e, derZ_lin, derZ_one hk st x y (bsE 0) (fun j _ hj => if_neg hj) hi]
  unfold cjV cjS
  by_cases h : i = 0
  · rw [if_pos h, h, derZ_nil hk]; omega
  · rw [if_neg h]; omega
 have h := derZ_skew hk st x y a (cjV b)
 unfold nfZ
 rw [← dmulZ_congr (fun _ _ => rfl) hb (pw_pos k)]
 exact h
/-- The bracket of two local triples of a form in three variables. -/
theorem br_local {V : Type} (p : Int) (F : V → V → V → Int) (A B C A' B' C' : V → V) (h : ∀ x y z, p ∣ F (A x) y z + F x (B y) z + F x y (C z)) (h' : ∀ x y z, p ∣ F (A' x) y z + F x (B' y) z + F x y (C' z)) (x y z : V) : p ∣ (F (A (A' x)) y z - F (A' (A x)) y z) + (F x (B (B' y)) z - F x (B' (B y)) z) + (F x y (C (C' z)) - F x y (C' (C z))) := by
 obtain ⟨k1, e1⟩ := h (A' x) y z
 obtain ⟨k2, e2⟩ := h x (B' y) z
 obtain ⟨k3, e3⟩ := h x y (C' z)
 obtain ⟨k4, e4⟩ := h' (A x) y z
 obtain ⟨k5, e5⟩ := h' x (B y) z
 obtain ⟨k6, e6⟩ := h' x y (C z)
 refine ⟨k1 + k2 + k3 - (k4 + k5 + k6), ?_⟩
 rw [Int.mul_sub, Int.mul_add, Int.mul_add, Int.mul_add, Int.mul_add]
 omega
/-- A matrix times a vector. -/
def matZ (N : Nat) (m : Nat → Nat → Int) (x : Nat → Int) (i : Nat) : Int := sumTo N fun j => m i j * x j
/-- A linear form: places with their numbers. -/
def fEv : List (Nat × Int) → (Nat → Int) → Int
 | [], _ => 0
 | e :: l, μ => e.2 * μ e.1 + fEv l μ
def fCo (y : Nat) : List (Nat × Int) → Int
 | [] => 0
 | e :: l => (if e.1 = y then e.2 else 0) + fCo y l
theorem sumTo_pick {M y : Nat} (hy : y < M) (c : Int) (μ : Nat → Int) : (sumTo M fun q => (if y = q then c else 0) * μ q) = c * μ y := by
 rw [sumTo_one y hy fun q _ hne => by rw [if_neg (fun e => hne e.symm), Int.zero_mul], if_pos rfl]
theorem fEv_co {M : Nat} (μ : Nat → Int) : ∀ l : List (Nat × Int), (∀ e, e ∈ l → e.1 < M) → fEv l μ = sumTo M fun y => fCo y l * μ y
 | [], _ => by
  show 0 = _
  rw [sumTo_zero fun y _ => by show (0 : Int) * μ y = 0; exact Int.zero_mul _]
 | e :: l, h => by
  show e.2 * μ e.1 + fEv l μ = _
  rw [fEv_co μ l fun x hx => h x (List.mem_cons_of_mem e hx), ← sumTo_pick (h e (List.mem_cons_self ..)) e.2 μ, ← sumTo_add]
  refine sumTo_congr fun y _ => ?_
  show _ = ((if e.1 = y then e.2 else 0) + fCo y l) * μ y
  rw [Int.add_mul]
theorem fEv_app (μ : Nat → Int) : ∀ a b : List (Nat × Int), fEv (a ++ b) μ = fEv a μ + fEv b μ
 | [], b => by show fEv b μ = 0 + _; rw [Int.zero_add]
 | e :: a, b => by
  show e.2 * μ e.1 + fEv (a ++ b) μ = _
  rw [fEv_app μ a b, ← Int.add_assoc]; rfl
theorem fEv_scale (μ : Nat → Int) (c : Int) : ∀ a : List (Nat × Int), fEv (a.map fun e => (e.1, c * e.2)) μ = c * fEv a μ
 | [] => by show (0 : Int) = c * 0; rw [Int.mul_zero]
 | e :: a => by
  show c * e.2 * μ e.1 + fEv (a.map fun e => (e.1, c * e.2)) μ = c * (e.2 * μ e.1 + fEv a μ)
  rw [fEv_scale μ c a, Int.mul_add, Int.mul_assoc]
def cmbE (E : List (List (Nat × Int))) : List (Int × Nat) → List (Nat × Int)
 | [] => []
 | (c, i) :: r => (E.getD i []).map (fun e => (e.1, c * e.2)) ++ cmbE E r
theorem cmbE_lt {M : Nat} {E : List (List (Nat × Int))} (h : ∀ l, l ∈ E → ∀ e, e ∈ l → e.1 < M) : ∀ r, ∀ e, e ∈ cmbE E r → e.1 < M
 | [], e, he => absurd he (by simp [cmbE])
 | (c, i) :: r, e, he => by
  unfold cmbE at he
  rcases List.mem_append.1 he with he | he
  · obtain ⟨x, hx, rfl⟩ := List.mem_map.1 he
    by_cases hi : i < E.length
    · have e1 : E.getD i [] = E[i] := by rw [List.getD_eq_getElem?_getD, List.getElem?_eq_getElem hi]; rfl
      rw [e1] at hx
      exact h _ (List.getElem_mem hi) x hx
    · have e1 : E.getD i [] = [] := by rw [List.getD_eq_getElem?_getD, List.getElem?_eq_none (by omega)]; rfl
      rw [e1] at hx
      exact absurd hx (by simp)
  · exact cmbE_lt h r e he
theorem cmbE_dvd {p : Int} {E : List (List (Nat × Int))} {μ : Nat → Int} (h : ∀ l, l ∈ E → p ∣ fEv l μ) : ∀ r, p ∣ fEv (cmbE E r) μ
 | [] => Int.dvd_zero p
 | (c, i) :: r => by
  unfold cmbE
  rw [fEv_app, fEv_scale]
  refine Int.dvd_add (Int.dvd_mul_of_dvd_right ?_) (cmbE_dvd h r)
  by_cases hi : i < E.length
  · have e1 : E.getD i [] = E[i] := by rw [List.getD_eq_getElem?_getD, List.getElem?_eq_getElem hi]; rfl
    rw [e1]; exact h _ (List.getElem_mem hi)
  · have e1 : E.getD i [] = [] := by rw [List.getD_eq_getElem?_getD, List.getElem?_eq_none (by omega)]; rfl
    rw [e1]; exact Int.dvd_zero p
def isPow2 (c : Int) : Bool := c == 1 || c == 2 || c == 4 || c == 8
def inB (E : List (List (Nat × Int))) (M : Nat) : Bool := E.all fun l => l.all fun e => decide (e.1 < M)
/-- For each place that is not free: a sum of multiples of the forms that is a power of 2 at this place, and 0 at all others that are not free. -/
def chkE (E : List (List (Nat × Int))) (M : Nat) (free : List Nat) (certs : List (List (Int × Nat))) : Bool :=
 inB E M && (List.range M).all fun x => free.contains x || (isPow2 (fCo x (cmbE E (certs.getD x []))) && (List.range M).all fun y => y == x || free.contains y || fCo y (cmbE E (certs.getD x [])) == 0)
theorem unit_cancel' {p : Int} (hP : isP p = true) {c u : Int} (hu : u % p ≠ 0) (h : c * u % p = 0) : c % p = 0 := by
 have h1 := inv_mod hP hu
 have hp := isP_ge hP
 have e : c * (u * invF p (u % p)) % p = c % p := by rw [Int.mul_emod, h1, Int.mul_one, Int.emod_emod_of_dvd _ (Int.dvd_refl p)]
 rw [← Int.mul_assoc, Int.mul_emod, h, Int.zero_mul, Int.zero_emod] at e
 exact e.symm
theorem sumTo_mod0 (p : Int) (D : Nat) (f : Nat → Int) (h : ∀ j, j < D → f j % p = 0) : sumTo D f % p = 0 := by
 have e := sumTo_mod p (n := D) (f := f) (g := fun _ => 0) fun j hj => by rw [h j hj, Int.zero_emod]
 rw [e, sumTo_zero fun _ _ => rfl, Int.zero_emod]
theorem sumTo_comb (n : Nat) (e v : Nat → Int) (D : Nat) (c : Nat → Int) (b : Nat → Nat → Int) : (sumTo n fun q => e q * (v q + -1 * (sumTo D fun j => c j * b j q))) = (sumTo n fun q => e q * v q) + -1 * (sumTo D fun j => c j * (sumTo n fun q => e q * b j q)) := by
 have e1 : (sumTo n fun q => e q * (v q + -1 * (sumTo D fun j => c j * b j q))) = sumTo n fun q => e q * v q + -1 * (sumTo D fun j => c j * (e q * b j q)) := sumTo_congr fun q _ => by
  rw [Int.mul_add]
  congr 1
  rw [show e q * (-1 * (sumTo D fun j => c j * b j q)) = -1 * (e q * (sumTo D fun j => c j * b j q)) by rw [← Int.mul_assoc, Int.mul_comm (e q) (-1), Int.mul_assoc], ← sumTo_mul]
  congr 1
  exact sumTo_congr fun j _ => by rw [← Int.mul_assoc, Int.mul_comm (e q), Int.mul_assoc]
 rw [e1, sumTo_add, sumTo_mul, sumTo_comm]
 congr 2
 exact sumTo_congr fun j _ => by rw [sumTo_mul]
theorem two_unit {p : Int} (hP : isP p = true) {c a : Int} (hc : isPow2 c = true) (h : p ∣ c * a) : p ∣ a := by
 have h2 : ∀ b : Int, p ∣ 2 * b → p ∣ b := fun b hb => by
  have hp := isP_ge hP
  refine Int.dvd_of_emod_eq_zero (unit_cancel' hP (u := 2) (by rw [Int.emod_eq_of_lt (by omega) (by omega)]; decide) ?_)
  rw [Int.mul_comm]; exact Int.emod_eq_zero_of_dvd hb
 unfold isPow2 at hc
 simp only [Bool.or_eq_true, beq_iff_eq] at hc
 rcases hc with ((rfl | rfl) | rfl) | rfl
 · rwa [Int.one_mul] at h
 · exact h2 _ h
 · exact h2 _ (h2 _ (by rw [← Int.mul_assoc]; exact h))
 · exact h2 _ (h2 _ (h2 _ (by rw [← Int.mul_assoc, ← Int.mul_assoc]; exact h)))
theorem elim_zero {p : Int} (hP : isP p = true) {E : List (List (Nat × Int))} {M : Nat} {free : List Nat} {certs : List (List (Int × Nat))} (h : chkE E M free certs = true) {μ : Nat → Int} (hE : ∀ l, l ∈ E → p ∣ fEv l μ) (hF : ∀ f, f ∈ free → p ∣ μ f) {x : Nat} (hx : x < M) : p ∣ μ x := by
 unfold chkE at h
 rw [Bool.and_eq_true, List.all_eq_true] at h
 obtain ⟨hB, hC⟩ := h
 have hB' : ∀ l, l ∈ E → ∀ e, e ∈ l → e.1 < M := fun l hl e he => by
  unfold inB at hB
  rw [List.all_eq_true] at hB
  have := hB l hl
  rw [List.all_eq_true] at this
  exact of_decide_eq_true (this e he)
 have hx2 := hC x (List.mem_range.2 hx)
 rw [Bool.or_eq_true, Bool.and_eq_true, List.all_eq_true] at hx2
 rcases hx2 with h1 | ⟨h1, h2⟩
 · exact hF x (by simpa using h1)
 · have hd := cmbE_dvd hE (certs.getD x [])
   rw [fEv_co μ _ (cmbE_lt hB' _)] at hd
   refine two_unit hP h1 ?_
   have e : (sumTo M fun y => fCo y (cmbE E (certs.getD x [])) * μ y) % p = fCo x (cmbE E (certs.getD x [])) * μ x % p := by
    have e2 : (sumTo M fun y => if y = x then fCo x (cmbE E (certs.getD x [])) * μ x else 0) = fCo x (cmbE E (certs.getD x [])) * μ x := by
     rw [sumTo_one x hx fun q _ hne => if_neg hne, if_pos rfl]
    rw [← e2]
    refine sumTo_mod p fun y hy => ?_
    by_cases hyx : y = x
    · rw [if_pos hyx, hyx]
    · rw [if_neg hyx]
      have h3 := h2 y (List.mem_range.2 hy)
      rw [Bool.or_eq_true, Bool.or_eq_true] at h3
      rcases h3 with (h3 | h3) | h3
      · exact absurd (by simpa using h3) hyx
      · rw [Int.zero_emod]
        exact Int.emod_eq_zero_of_dvd (Int.dvd_mul_of_dvd_right (hF y (by simpa using h3)))
      · rw [show fCo y (cmbE E (certs.getD x [])) = 0 by simpa using h3, Int.zero_mul]
   exact Int.dvd_of_emod_eq_zero (e.symm.trans (Int.emod_eq_zero_of_dvd hd))
/-- How many solutions: as many as free places, where there is one of each and no other. -/
theorem dim_of_free {p : Int} (hP : isP p = true) {n D : Nat} {m : List (List Int)} (hT : Tab p n m) (fp : Nat → Nat) (u : Nat → Int) (b : Nat → Nat → Int) (hf : ∀ j, j < D → fp j < n) (hb : ∀ j, j < D → Orth p n m (b j))
    (hd : ∀ i j, i < D → j < D → b j (fp i) % p = if i = j then u i % p else 0) (hu : ∀ j, j < D → u j % p ≠ 0)
    (hz : ∀ v : Nat → Int, Orth p n m v → (∀ j, j < D → v (fp j) % p = 0) → ∀ q, q < n → v q % p = 0) : (kernL p m n).length = D := by
 have hp := isP_ge hP
 let M : List (List Int) := (List.range D).map fun j => tab n fun q => b j q % p
 have hML : M.length = D := by simp [M]
 have hent : ∀ j q, j < D → q < n → ent M j q = b j q % p := fun j q hj hq => by
  unfold ent
  have : M.getD j [] = tab n fun q => b j q % p := by simp [M, List.getD_eq_getElem?_getD, hj]
  rw [this, tab_getD hq]
 have hI : Ind p n M := fun c hc i hi => by
  rw [hML] at hi
  have h1 := hc (fp i) (hf i hi)
  rw [hML] at h1
  have h2 : (sumTo D fun j => c j * ent M j (fp i)) % p = c i * u i % p := by
   have e2 : (sumTo D fun j => if j = i then c i * u i else 0) = c i * u i := by rw [sumTo_one i hi fun q _ hne => if_neg hne, if_pos rfl]
   rw [← e2]
   refine sumTo_mod p fun j hj => ?_
   rw [hent j (fp i) hj (hf i hi), Int.mul_emod, Int.emod_emod_of_dvd _ (Int.dvd_refl p), hd i j hi hj]
   by_cases hij : j = i
   · subst hij; rw [if_pos rfl, if_pos rfl, Int.mul_emod (c j) (u j)]
   · rw [if_neg (fun e => hij e.symm), if_neg hij, Int.mul_zero]
  rw [h2] at h1
  exact unit_cancel' hP (hu i hi) h1
 have hS1 : InSp p n M (kernL p m n) := fun j hj => by
  rw [hML] at hj
  exact (kernL_sp hP hT).2 ((hb j hj).congr fun q hq => by rw [hent j q hj hq, Int.emod_emod_of_dvd _ (Int.dvd_refl p)])
 have hS2 : InSp p n (kernL p m n) M := fun r hr => by
  have hv : Orth p n m fun q => ent (kernL p m n) r q := (kernL_sp hP hT).1 (Sp.row hr)
  let v : Nat → Int := fun q => ent (kernL p m n) r q
  let c : Nat → Int := fun j => v (fp j) * invF p (u j % p)
  have hw : Orth p n m fun q => v q + -1 * (sumTo D fun j => c j * b j q) := fun i hi => by
   have e1 : (sumTo n fun q => ent m i q * (v q + -1 * (sumTo D fun j => c j * b j q))) = (sumTo n fun q => ent m i q * v q) + -1 * (sumTo D fun j => c j * (sumTo n fun q => ent m i q * b j q)) := by
    rw [sumTo_comb n (fun q => ent m i q) v D c b]
   rw [e1, Int.add_emod, hv i hi, Int.mul_emod, sumTo_mod0 p D (fun j => c j * (sumTo n fun q => ent m i q * b j q)) fun j hj => by rw [Int.mul_emod, hb j hj i hi, Int.mul_zero, Int.zero_emod]]
   rw [Int.mul_zero, Int.zero_emod, Int.add_zero, Int.zero_emod]
  have hw0 := hz _ hw fun i hi => by
   have e1 : (sumTo D fun j => c j * b j (fp i)) % p = v (fp i) % p := by
    have e2 : (sumTo D fun j => if j = i then c i * u i else 0) = c i * u i := by rw [sumTo_one i hi fun q _ hne => if_neg hne, if_pos rfl]
    have e3 : (sumTo D fun j => c j * b j (fp i)) % p = c i * u i % p := by
     rw [← e2]
     refine sumTo_mod p fun j hj => ?_
     rw [Int.mul_emod, hd i j hi hj]
     by_cases hij : j = i
     · subst hij; rw [if_pos rfl, if_pos rfl, ← Int.mul_emod]
     · rw [if_neg (fun e => hij e.symm), if_neg hij, Int.mul_zero]
    rw [e3, show c i * u i = v (fp i) * (u i * invF p (u i % p)) by show v (fp i) * invF p (u i % p) * u i = _; rw [Int.mul_assoc, Int.mul_comm (invF p (u i % p))], Int.mul_emod, inv_mod hP (hu i hi), Int.mul_one, Int.emod_emod_of_dvd _ (Int.dvd_refl p)]
   rw [Int.add_emod, Int.mul_emod, e1, ← Int.mul_emod, ← Int.add_emod, show v (fp i) + -1 * v (fp i) = 0 by omega, Int.zero_emod]
  refine ⟨c, fun q hq => ?_⟩
  rw [hML]
  have e1 : (sumTo D fun j => c j * ent M j q) % p = (sumTo D fun j => c j * b j q) % p := sumTo_mod p fun j hj => by
   rw [hent j q hj hq, Int.mul_emod, Int.emod_emod_of_dvd _ (Int.dvd_refl p), ← Int.mul_emod]
  rw [e1]
  have := hw0 q hq
  have h2 : (v q - sumTo D fun j => c j * b j q) % p = 0 := by rw [show v q - (sumTo D fun j => c j * b j q) = v q + -1 * (sumTo D fun j => c j * b j q) by omega]; exact this
  exact Int.emod_eq_emod_iff_emod_sub_eq_zero.2 h2
 rw [← hML]
 exact Ind.same hP (kernL_red hP m n).ind hI hS2 hS1
theorem fEv_congr {μ ν : Nat → Int} : ∀ {l : List (Nat × Int)}, (∀ e, e ∈ l → μ e.1 = ν e.1) → fEv l μ = fEv l ν
 | [], _ => rfl
 | e :: l, h => by
  show e.2 * μ e.1 + fEv l μ = e.2 * ν e.1 + fEv l ν
  rw [h e (List.mem_cons_self ..), fEv_congr fun x hx => h x (List.mem_cons_of_mem e hx)]
theorem fEv_mul (c : Int) (μ : Nat → Int) : ∀ l : List (Nat × Int), fEv l (fun y => c * μ y) = c * fEv l μ
 | [] => by show (0 : Int) = c * 0; rw [Int.mul_zero]
 | e :: l => by
  show e.2 * (c * μ e.1) + fEv l (fun y => c * μ y) = c * (e.2 * μ e.1 + fEv l μ)
  rw [fEv_mul c μ l, Int.mul_add, ← Int.mul_assoc, ← Int.mul_assoc, Int.mul_comm e.2 c]
theorem fEv_zero : ∀ l : List (Nat × Int), fEv l (fun _ => 0) = 0
 | [] => rfl
 | e :: l => by
  show e.2 * 0 + fEv l (fun _ => 0) = 0
  rw [fEv_zero l, Int.mul_zero]; rfl
def tH (T : List (Nat × Nat × List Int)) (j : Nat) : Nat := (T.getD j (0, 0, [])).1
def tF (T : List (Nat × Nat × List Int)) (j : Nat) : Nat := (T.getD j (0, 0, [])).2.1
def tS (T : List (Nat × Nat × List Int)) (j : Nat) : Nat → Int := fun y => (T.getD j (0, 0, [])).2.2.getD y 0
def freeH (T : List (Nat × Nat × List Int)) (h : Nat) : List Nat := (T.filter fun t => t.1 == h).map fun t => t.2.1
def chkG (E : Nat → List (List (Nat × Int))) (N M : Nat) (T : List (Nat × Nat × List Int)) (certs : List (List (List (Int × Nat)))) : Bool :=
 ((List.range N).all fun h => chkE (E h) M (freeH T h) (certs.getD h [])) && (List.range T.length).all fun j => decide (tH T j < N) && decide (tF T j < M) && isPow2 (tS T j (tF T j)) && ((E (tH T j)).all fun l => fEv l (tS T j) == 0) && (List.range T.length).all fun i => i == j || tH T i != tH T j || tS T j (tF T i) == 0
theorem pow2_unit {p : Int} (hP : isP p = true) {c : Int} (h : isPow2 c = true) : c % p ≠ 0 := fun e => by
 have hp := isP_ge hP
 have h1 : p ∣ c * 1 := by rw [Int.mul_one]; exact Int.dvd_of_emod_eq_zero e
 have := Int.le_of_dvd (by omega) (two_unit hP h h1)
 omega
theorem unit_mul {p : Int} (hP : isP p = true) {a b : Int} (ha : a % p ≠ 0) (hb : b % p ≠ 0) : a * b % p ≠ 0 := fun e => ha (unit_cancel' hP hb e)
theorem graded_dim {p : Int} (hP : isP p = true) {n N M : Nat} {m : List (List Int)} (hT : Tab p n m) (pos : Nat → Nat → Nat) (hh yy : Nat → Nat) (sc sc' : Nat → Nat → Int) (S : Int) (hS : S % p ≠ 0) (E : Nat → List (List (Nat × Int))) (T : List (Nat × Nat × List Int)) (certs : List (List (List (Int × Nat))))
    (h1 : ∀ q, q < n → hh q < N ∧ yy q < M ∧ pos (hh q) (yy q) = q) (h2 : ∀ h y, h < N → y < M → pos h y < n ∧ hh (pos h y) = h ∧ yy (pos h y) = y)
    (h3 : ∀ h y, h < N → y < M → sc h y * sc' h y = S)
    (h4 : ∀ v : Nat → Int, Orth p n m v ↔ ∀ h, h < N → ∀ l, l ∈ E h → p ∣ fEv l fun y => v (pos h y) * sc' h y)
    (hc : chkG E N M T certs = true) : (kernL p m n).length = T.length := by
 have hp := isP_ge hP
 unfold chkG at hc
 rw [Bool.and_eq_true, List.all_eq_true, List.all_eq_true] at hc
 obtain ⟨hc1, hc2⟩ := hc
 have hc1 : ∀ h, h < N → chkE (E h) M (freeH T h) (certs.getD h []) = true := fun h hh => hc1 h (List.mem_range.2 hh)
 have hc2 : ∀ j, j < T.length → tH T j < N ∧ tF T j < M ∧ isPow2 (tS T j (tF T j)) = true ∧ (∀ l, l ∈ E (tH T j) → fEv l (tS T j) = 0) ∧ ∀ i, i < T.length → i ≠ j → tH T i = tH T j → tS T j (tF T i) = 0 := fun j hj => by
  have h := hc2 j (List.mem_range.2 hj)
  simp only [Bool.and_eq_true, decide_eq_true_eq, List.all_eq_true, beq_iff_eq, List.mem_range, Bool.or_eq_true, bne_iff_ne] at h
  obtain ⟨⟨⟨⟨a, b⟩, c⟩, d⟩, e⟩ := h
  exact ⟨a, b, c, d, fun i hi hne hij => by rcases e i hi with (e1 | e1) | e1; exact absurd e1 hne; exact absurd hij e1; exact e1⟩
 have hsc : ∀ h y, h < N → y < M → sc h y % p ≠ 0 ∧ sc' h y % p ≠ 0 := fun h y hh hy => ⟨fun e => hS (by rw [← h3 h y hh hy, Int.mul_emod, e, Int.zero_mul, Int.zero_emod]), fun e => hS (by rw [← h3 h y hh hy, Int.mul_emod, e, Int.mul_zero, Int.zero_emod])⟩
 have hB : ∀ l, l ∈ [0] → True := fun _ _ => trivial
 have hlt : ∀ h, h < N → ∀ l, l ∈ E h → ∀ e, e ∈ l → e.1 < M := fun h hh l hl e he => by
  have h0 := hc1 h hh
  unfold chkE at h0
  rw [Bool.and_eq_true] at h0
  have h5 := h0.1
  unfold inB at h5
  rw [List.all_eq_true] at h5
  have h6 := h5 l hl
  rw [List.all_eq_true] at h6
  exact of_decide_eq_true (h6 e he)
 refine dim_of_free hP hT (fun j => pos (tH T j) (tF T j)) (fun j => sc (tH T j) (tF T j) * tS T j (tF T j)) (fun j q => if hh q = tH T j then sc (tH T j) (yy q) * tS T j (yy q) else 0) ?_ ?_ ?_ ?_ ?_
 · intro j hj
   exact (h2 _ _ (hc2 j hj).1 (hc2 j hj).2.1).1
 · intro j hj
   obtain ⟨a, b, c, d, e⟩ := hc2 j hj
   refine (h4 _).2 fun h hh1 l hl => ?_
   by_cases hj2 : h = tH T j
   · subst hj2
     have e1 : (fEv l fun y => (if hh (pos (tH T j) y) = tH T j then sc (tH T j) (yy (pos (tH T j) y)) * tS T j (yy (pos (tH T j) y)) else 0) * sc' (tH T j) y) = fEv l fun y => S * tS T j y := fEv_congr fun x hx => by
      have hxm := hlt _ hh1 l hl x hx
      obtain ⟨-, e2, e3⟩ := h2 _ _ hh1 hxm
      rw [e2, e3, if_pos rfl, ← h3 _ _ hh1 hxm, Int.mul_assoc, Int.mul_assoc, Int.mul_comm (tS T j x.1)]
     rw [e1, fEv_mul, d l hl, Int.mul_zero]
     exact Int.dvd_zero p
   · have e1 : (fEv l fun y => (if hh (pos h y) = tH T j then sc (tH T j) (yy (pos h y)) * tS T j (yy (pos h y)) else 0) * sc' h y) = fEv l fun _ => 0 := fEv_congr fun x hx => by
      have hxm := hlt _ hh1 l hl x hx
      obtain ⟨-, e2, e3⟩ := h2 _ _ hh1 hxm
      rw [e2, if_neg hj2, Int.zero_mul]
     rw [e1, fEv_zero]
     exact Int.dvd_zero p
 · intro i j hi hj
   obtain ⟨a, b, c, d, e⟩ := hc2 j hj
   obtain ⟨a', b', c', d', e'⟩ := hc2 i hi
   obtain ⟨-, e2, e3⟩ := h2 _ _ a' b'
   rw [e2, e3]
   by_cases hij : i = j
   · subst hij; rw [if_pos rfl, if_pos rfl]
   · rw [if_neg hij]
     by_cases hh1 : tH T i = tH T j
     · rw [if_pos hh1, e i hi hij hh1, Int.mul_zero, Int.zero_emod]
     · rw [if_neg hh1, Int.zero_emod]
 · intro j hj
   obtain ⟨a, b, c, d, e⟩ := hc2 j hj
   exact unit_mul hP (hsc _ _ a b).1 (pow2_unit hP c)
 · intro v hv hz q hq
   obtain ⟨a, b, c⟩ := h1 q hq
   have hE := (h4 v).1 hv (hh q) a
   have h5 := elim_zero hP (hc1 _ a) hE (fun f hf => by
    unfold freeH at hf
    obtain ⟨t, ht, rfl⟩ := List.mem_map.1 hf
    rw [List.mem_filter] at ht
    obtain ⟨ht1, ht2⟩ := ht
    obtain ⟨j, hj, rfl⟩ := List.getElem_of_mem ht1
    have hz1 := hz j hj
    have e1 : T.getD j (0, 0, []) = T[j] := by rw [List.getD_eq_getElem?_getD, List.getElem?_eq_getElem hj]; rfl
    unfold tH tF at hz1
    rw [e1] at hz1
    rw [beq_iff_eq] at ht2
    rw [ht2] at hz1
    refine Int.dvd_of_emod_eq_zero ?_
    rw [Int.mul_emod, hz1, Int.zero_mul, Int.zero_emod]) b
   rw [c] at h5
   exact unit_cancel' hP (hsc _ _ a b).2 (Int.emod_eq_zero_of_dvd h5)
/-- The sign of a product of elements of the basis. -/
def sgD (k i j : Nat) : Int := cD (ones k) k i j
def dg (k i : Nat) : Int := cjS i * sgD k i i
def eqT (k h : Nat) : List (List (Nat × Int)) := ((List.range 3).flatMap fun part => (List.range (pw k)).map fun b => [(part * pw k + b, dg k (b ^^^ h)), (part * pw k + (b ^^^ h), dg k b)]) ++ (List.range (pw k)).flatMap fun i => (List.range (pw k)).map fun j => [(i, sgD k (i ^^^ h) j * sgD k (i ^^^ j ^^^ h) (i ^^^ j ^^^ h)), (pw k + j, sgD k i (j ^^^ h) * sgD k (i ^^^ j ^^^ h) (i ^^^ j ^^^ h)), (2 * pw k + (i ^^^ j ^^^ h), sgD k i j * sgD k (i ^^^ j) (i ^^^ j))]
def tT0 : List (Nat × Nat × List Int) := []
def cT0 : List (List (List (Int × Nat))) := [[[(1, 0)], [(1, 1)], [(1, 2)]]]
set_option maxRecDepth 100000 in
theorem lenT0 : tT0.length = 0 := by decide +kernel
theorem chkT0 : chkG (eqT 0) (pw 0) (3 * pw 0) tT0 cT0 = true := by decide +kernel
def tT1 : List (Nat × Nat × List Int) := [(1, 0, [1, 1, 0, 0, (-1), (-1)]), (1, 2, [0, 0, 1, 1, (-1), (-1)])]
def cT1 : List (List (List (Int × Nat))) := [[[(1, 0)], [((-1), 1)], [(1, 2)], [((-1), 3)], [(1, 4)], [((-1), 5)]], [[], [(1, 0)], [], [(1, 2)], [((-1), 4), (1, 6)], [(1, 6)]]]
set_option maxRecDepth 100000 in
theorem lenT1 : tT1.length = 2 := by decide +kernel
theorem chkT1 : chkG (eqT 1) (pw 1) (3 * pw 1) tT1 cT1 = true := by decide +kernel
def tT2 : List (Nat × Nat × List Int) := [(1, 0, [1, 1, 0, 0, 0, 0, (-1), (-1), (-1), (-1), 0, 0]), (1, 2, [0, 0, 1, 1, 0, 0, 1, 1, 0, 0, 1, 1]), (1, 4, [0, 0, 0, 0, 1, 1, (-1), (-1), (-1), (-1), (-1), (-1)]), (2, 0, [1, 0, 1, 0, 0, 1, 0, 1, (-1), 0, (-1), 0]), (2, 1, [0, 1, 0, 1, 0, 1, 0, 1, 0, 1, 0, 1]), (2, 4, [0, 0, 0, 0, 1, 1, 1, 1, (-1), 1, (-1), 1]), (3, 0, [1, 0, 0, (-1), 0, 1, (-1), 0, (-1), 0, 0, 1]), (3, 1, [0, 1, (-1), 0, 0, 1, (-1), 0, 0, 1, (-1), 0]), (3, 4, [0, 0, 0, 0, 1, 1, (-1), (-1), (-1), 1, (-1), 1])]
def cT2 : List (List (List (Int × Nat))) := [[[(1, 0)], [((-1), 1)], [((-1), 2)], [(1, 3)], [(1, 4)], [((-1), 5)], [((-1), 6)], [(1, 7)], [(1, 8)], [((-1), 9)], [((-1), 10)], [(1, 11)]], [[], [(1, 0)], [], [((-1), 2)], [], [(1, 4)], [(1, 6), (1, 10), (1, 15), (1, 20)], [(1, 10), (1, 15), (1, 20)], [((-1), 8), (1, 12)], [(1, 12)], [(1, 10), (1, 20)], [(1, 20)]], [[], [], [(1, 0)], [((-1), 1)], [], [(1, 5), (1, 9), (1, 15), (1, 16)], [(1, 4)], [(1, 9), (1, 15), (1, 16)], [((-1), 8), (1, 12)], [(1, 9), (1, 16)], [(1, 12)], [(1, 16)]], [[], [], [((-1), 1)], [(1, 0)], [], [((-1), 5), ((-1), 9), ((-1), 14), ((-1), 16)], [(1, 9), (1, 14), (1, 16)], [(1, 4)], [(1, 8), ((-1), 12)], [((-1), 9), ((-1), 16)], [(1, 16)], [(1, 12)]]]
set_option maxRecDepth 100000 in
theorem lenT2 : tT2.length = 9 := by decide +kernel
theorem chkT2 : chkG (eqT 2) (pw 2) (3 * pw 2) tT2 cT2 = true := by decide +kernel
def tT3 : List (Nat × Nat × List Int) := [(1, 0, [1, 1, 0, 0, 0, 0, (-1), (-1), 0, 0, (-1), (-1), (-1), (-1), 0, 0, (-1), (-1), 0, 0, 0, 0, (-1), (-1)]), (1, 2, [0, 0, 1, 1, 0, 0, 1, 1, 0, 0, 1, 1, 0, 0, 1, 1, 0, 0, 1, 1, 0, 0, 1, 1]), (1, 4, [0, 0, 0, 0, 1, 1, 1, 1, 0, 0, 0, 0, 1, 1, 1, 1, 0, 0, 0, 0, 1, 1, 1, 1]), (1, 8, [0, 0, 0, 0, 0, 0, (-2), (-2), 1, 1, (-1), (-1), (-1), (-1), (-1), (-1), (-1), (-1), (-1), (-1), (-1), (-1), (-1), (-1)]), (2, 0, [1, 0, 1, 0, 0, 1, 0, 1, 0, 1, 0, 1, (-1), 0, (-1), 0, (-1), 0, (-1), 0, 0, 1, 0, 1]), (2, 1, [0, 1, 0, 1, 0, 1, 0, 1, 0, 1, 0, 1, 0, 1, 0, 1, 0, 1, 0, 1, 0, 1, 0, 1]), (2, 4, [0, 0, 0, 0, 1, (-1), 1, (-1), 0, 0, 0, 0, 1, (-1), 1, (-1), 0, 0, 0, 0, 1, (-1), 1, (-1)]), (2, 8, [0, 0, 0, 0, 0, 2, 0, 2, 1, 1, 1, 1, (-1), 1, (-1), 1, (-1), 1, (-1), 1, (-1), 1, (-1), 1]), (3, 0, [1, 0, 0, (-1), 0, 1, (-1), 0, 0, 1, (-1), 0, (-1), 0, 0, 1, (-1), 0, 0, 1, 0, 1, (-1), 0]), (3, 1, [0, 1, (-1), 0, 0, 1, (-1), 0, 0, 1, (-1), 0, 0, 1, (-1), 0, 0, 1, (-1), 0, 0, 1, (-1), 0]), (3, 4, [0, 0, 0, 0, 1, (-1), 1, (-1), 0, 0, 0, 0, 1, (-1), 1, (-1), 0, 0, 0, 0, 1, (-1), 1, (-1)]), (3, 8, [0, 0, 0, 0, 0, 2, (-2), 0, 1, 1, (-1), (-1), (-1), 1, (-1), 1, (-1), 1, (-1), 1, (-1), 1, (-1), 1]), (4, 0, [1, 0, 0, (-1), 1, 0, 0, (-1), 0, 1, 1, 0, 0, 1, 1, 0, (-1), 0, 0, (-1), (-1), 0, 0, (-1)]), (4, 1, [0, 1, 0, (-1), 0, 1, 0, (-1), 0, 1, 0, (-1), 0, 1, 0, (-1), 0, 1, 0, (-1), 0, 1, 0, (-1)]), (4, 2, [0, 0, 1, (-1), 0, 0, 1, (-1), 0, 0, 1, (-1), 0, 0, 1, (-1), 0, 0, 1, (-1), 0, 0, 1, (-1)]), (4, 8, [0, 0, 0, (-2), 0, 0, 0, (-2), 1, 1, 1, (-1), 1, 1, 1, (-1), (-1), 1, 1, (-1), (-1), 1, 1, (-1)]), (5, 0, [1, 0, 0, (-1), 0, (-1), 1, 0, 0, 1, 1, 0, (-1), 0, 0, (-1), (-1), 0, 0, (-1), 0, 1, 1, 0]), (5, 1, [0, 1, 0, (-1), (-1), 0, 1, 0, 0, 1, 0, (-1), (-1), 0, 1, 0, 0, 1, 0, (-1), (-1), 0, 1, 0]), (5, 2, [0, 0, 1, (-1), 0, 0, 1, (-1), 0, 0, 1, (-1), 0, 0, 1, (-1), 0, 0, 1, (-1), 0, 0, 1, (-1)]), (5, 8, [0, 0, 0, (-2), 0, 0, 2, 0, 1, 1, 1, (-1), (-1), (-1), 1, (-1), (-1), 1, 1, (-1), (-1), 1, 1, (-1)]), (6, 0, [1, 0, 0, 1, 0, (-1), (-1), 0, 0, (-1), 1, 0, (-1), 0, 0, 1, (-1), 0, 0, 1, 0, (-1), 1, 0]), (6, 1, [0, 1, 0, (-1), 0, 1, 0, (-1), 0, 1, 0, (-1), 0, 1, 0, (-1), 0, 1, 0, (-1), 0, 1, 0, (-1)]), (6, 2, [0, 0, 1, 1, (-1), (-1), 0, 0, 0, 0, 1, 1, (-1), (-1), 0, 0, 0, 0, 1, 1, (-1), (-1), 0, 0]), (6, 8, [0, 0, 0, 2, 0, (-2), 0, 0, 1, (-1), 1, 1, (-1), (-1), (-1), 1, (-1), (-1), 1, 1, (-1), (-1), 1, 1]), (7, 0, [1, 0, 0, 1, 1, 0, 0, 1, 0, (-1), 1, 0, 0, 1, (-1), 0, (-1), 0, 0, 1, 1, 0, 0, (-1)]), (7, 1, [0, 1, 0, (-1), (-1), 0, 1, 0, 0, 1, 0, (-1), (-1), 0, 1, 0, 0, 1, 0, (-1), (-1), 0, 1, 0]), (7, 2, [0, 0, 1, 1, 1, 1, 0, 0, 0, 0, 1, 1, 1, 1, 0, 0, 0, 0, 1, 1, 1, 1, 0, 0]), (7, 8, [0, 0, 0, 2, 2, 0, 0, 0, 1, (-1), 1, 1, 1, 1, (-1), 1, (-1), (-1), 1, 1, 1, 1, (-1), (-1)])]
def cT3 : List (List (List (Int × Nat))) := [[[(1, 0)], [((-1), 1)], [((-1), 2)], [(1, 3)], [((-1), 4)], [(1, 5)], [(1, 6)], [((-1), 7)], [(1, 8)], [((-1), 9)], [((-1), 10)], [(1, 11)], [((-1), 12)], [(1, 13)], [(1, 14)], [((-1), 15)], [(1, 16)], [((-1), 17)], [((-1), 18)], [(1, 19)], [((-1), 20)], [(1, 21)], [(1, 22)], [((-1), 23)]], [[], [(1, 0)], [], [((-1), 2)], [], [((-1), 4)], [((-1), 6), (1, 12), (1, 20), ((-1), 22), (1, 29), ((-1), 44), (1, 56), ((-1), 80)], [(1, 12), (1, 20), ((-1), 22), (1, 29), ((-1), 44), (1, 56), ((-1), 80)], [], [(1, 8)], [(1, 10), (1, 18), (1, 27), (1, 40)], [(1, 18), (1, 27), (1, 40)], [(1, 12), (1, 20), (1, 29), (1, 56)], [(1, 20), (1, 29), (1, 56)], [(1, 12), ((-1), 14), (1, 20), ((-1), 22), (1, 29), ((-1), 31), ((-1), 44), (1, 56)], [(1, 12), (1, 20), ((-1), 22), (1, 29), ((-1), 31), ((-1), 44), (1, 56)], [((-1), 16), (1, 24)], [(1, 24)], [(1, 18), (1, 40)], [(1, 40)], [(1, 20), (1, 56)], [(1, 56)], [(1, 12), (1, 20), ((-1), 22), (1, 29), ((-1), 44), (1, 56)], [(1, 12), (1, 20), (1, 29), ((-1), 44), (1, 56)]], [[], [], [(1, 0)], [((-1), 1)], [], [((-1), 5), ((-1), 12), ((-1), 20), ((-1), 21), ((-1), 30), ((-1), 36), ((-1), 56), ((-1), 80)], [((-1), 4)], [((-1), 12), ((-1), 20), ((-1), 21), ((-1), 30), ((-1), 36), ((-1), 56), ((-1), 80)], [], [(1, 9), (1, 17), (1, 27), (1, 32)], [(1, 8)], [(1, 17), (1, 27), (1, 32)], [(1, 12), (1, 20), (1, 30), (1, 56)], [((-1), 12), ((-1), 13), ((-1), 20), ((-1), 21), ((-1), 30), ((-1), 31), ((-1), 36), ((-1), 56)], [(1, 20), (1, 30), (1, 56)], [((-1), 12), ((-1), 20), ((-1), 21), ((-1), 30), ((-1), 31), ((-1), 36), ((-1), 56)], [((-1), 16), (1, 24)], [(1, 17), (1, 32)], [(1, 24)], [(1, 32)], [(1, 20), (1, 56)], [((-1), 12), ((-1), 20), ((-1), 21), ((-1), 30), ((-1), 36), ((-1), 56)], [(1, 56)], [((-1), 12), ((-1), 20), ((-1), 30), ((-1), 36), ((-1), 56)]], [[], [], [((-1), 1)], [(1, 0)], [], [(1, 5), (1, 12), (1, 20), (1, 21), (1, 31), (1, 36), (1, 56), (1, 72)], [((-1), 12), ((-1), 20), ((-1), 21), ((-1), 31), ((-1), 36), ((-1), 56), ((-1), 72)], [((-1), 4)], [], [((-1), 9), ((-1), 17), ((-1), 26), ((-1), 32)], [(1, 17), (1, 26), (1, 32)], [(1, 8)], [((-1), 12), ((-1), 20), ((-1), 31), ((-1), 56)], [(1, 12), (1, 13), (1, 20), (1, 21), (1, 30), (1, 31), (1, 36), (1, 56)], [((-1), 12), ((-1), 20), ((-1), 21), ((-1), 30), ((-1), 31), ((-1), 36), ((-1), 56)], [(1, 20), (1, 31), (1, 56)], [(1, 16), ((-1), 24)], [((-1), 17), ((-1), 32)], [(1, 32)], [(1, 24)], [((-1), 20), ((-1), 56)], [(1, 12), (1, 20), (1, 21), (1, 31), (1, 36), (1, 56)], [((-1), 12), ((-1), 20), ((-1), 31), ((-1), 36), ((-1), 56)], [(1, 56)]], [[], [], [], [((-1), 3), ((-1), 10), ((-1), 18), ((-1), 19), ((-1), 30), ((-1), 34), ((-1), 40), ((-1), 80)], [(1, 0)], [((-1), 1)], [((-1), 2)], [((-1), 10), ((-1), 18), ((-1), 19), ((-1), 30), ((-1), 34), ((-1), 40), ((-1), 80)], [], [(1, 9), (1, 17), (1, 29), (1, 32)], [(1, 10), (1, 18), (1, 30), (1, 40)], [((-1), 10), ((-1), 11), ((-1), 18), ((-1), 19), ((-1), 30), ((-1), 31), ((-1), 34), ((-1), 40)], [(1, 8)], [(1, 17), (1, 29), (1, 32)], [(1, 18), (1, 30), (1, 40)], [((-1), 10), ((-1), 18), ((-1), 19), ((-1), 30), ((-1), 31), ((-1), 34), ((-1), 40)], [((-1), 16), (1, 24)], [(1, 17), (1, 32)], [(1, 18), (1, 40)], [((-1), 10), ((-1), 18), ((-1), 19), ((-1), 30), ((-1), 34), ((-1), 40)], [(1, 24)], [(1, 32)], [(1, 40)], [((-1), 10), ((-1), 18), ((-1), 30), ((-1), 34), ((-1), 40)]], [[], [], [], [(1, 3), (1, 10), (1, 18), (1, 19), (1, 31), (1, 34), (1, 40), (1, 72)], [((-1), 1)], [(1, 0)], [((-1), 10), ((-1), 18), ((-1), 19), ((-1), 31), ((-1), 34), ((-1), 40), ((-1), 72)], [((-1), 2)], [], [((-1), 9), ((-1), 17), ((-1), 28), ((-1), 32)], [((-1), 10), ((-1), 18), ((-1), 31), ((-1), 40)], [(1, 10), (1, 11), (1, 18), (1, 19), (1, 30), (1, 31), (1, 34), (1, 40)], [(1, 17), (1, 28), (1, 32)], [(1, 8)], [((-1), 10), ((-1), 18), ((-1), 19), ((-1), 30), ((-1), 31), ((-1), 34), ((-1), 40)], [(1, 18), (1, 31), (1, 40)], [(1, 16), ((-1), 24)], [((-1), 17), ((-1), 32)], [((-1), 18), ((-1), 40)], [(1, 10), (1, 18), (1, 19), (1, 31), (1, 34), (1, 40)], [(1, 32)], [(1, 24)], [((-1), 10), ((-1), 18), ((-1), 31), ((-1), 34), ((-1), 40)], [(1, 40)]], [[], [], [], [(1, 3), (1, 9), (1, 17), (1, 19), (1, 31), (1, 32), ((-1), 41), (1, 64)], [((-1), 2)], [((-1), 9), ((-1), 17), ((-1), 19), ((-1), 31), ((-1), 32), (1, 41), ((-1), 64)], [(1, 0)], [((-1), 1)], [], [((-1), 9), ((-1), 17), ((-1), 31), ((-1), 32)], [((-1), 10), ((-1), 18), ((-1), 28), ((-1), 40)], [(1, 9), (1, 11), (1, 17), (1, 19), (1, 29), (1, 31), (1, 32), ((-1), 41)], [(1, 18), (1, 28), (1, 40)], [((-1), 9), ((-1), 17), ((-1), 19), ((-1), 29), ((-1), 31), ((-1), 32), (1, 41)], [(1, 8)], [(1, 17), (1, 31), (1, 32)], [(1, 16), ((-1), 24)], [((-1), 17), ((-1), 32)], [((-1), 18), ((-1), 40)], [(1, 9), (1, 17), (1, 19), (1, 31), (1, 32), ((-1), 41)], [(1, 40)], [((-1), 9), ((-1), 17), ((-1), 31), ((-1), 32), (1, 41)], [(1, 24)], [(1, 32)]], [[], [], [], [((-1), 3), (1, 10), (1, 18), ((-1), 19), (1, 29), ((-1), 34), (1, 40), ((-1), 56)], [(1, 10), (1, 18), ((-1), 19), (1, 29), ((-1), 34), (1, 40), ((-1), 56)], [((-1), 2)], [((-1), 1)], [(1, 0)], [], [(1, 9), (1, 17), (1, 30), (1, 32)], [(1, 10), (1, 18), (1, 29), (1, 40)], [(1, 10), ((-1), 11), (1, 18), ((-1), 19), ((-1), 28), (1, 29), ((-1), 34), (1, 40)], [(1, 10), (1, 18), ((-1), 19), ((-1), 28), (1, 29), ((-1), 34), (1, 40)], [(1, 18), (1, 29), (1, 40)], [(1, 17), (1, 30), (1, 32)], [(1, 8)], [((-1), 16), (1, 24)], [(1, 17), (1, 32)], [(1, 18), (1, 40)], [(1, 10), (1, 18), ((-1), 19), (1, 29), ((-1), 34), (1, 40)], [(1, 10), (1, 18), (1, 29), ((-1), 34), (1, 40)], [(1, 40)], [(1, 32)], [(1, 24)]]]
set_option maxRecDepth 100000 in
theorem lenT3 : tT3.length = 28 := by decide +kernel
theorem chkT3 : chkG (eqT 3) (pw 3) (3 * pw 3) tT3 cT3 = true := by decide +kernel
def gV (x : List Int) (i : Nat) : Int := x.getD i 0
theorem dmulZ_mod {p : Int} {st : List Int} {k : Nat} {x x' y y' : Nat → Int} (hx : ∀ i, i < pw k → x i % p = x' i % p) (hy : ∀ i, i < pw k → y i % p = y' i % p) {r : Nat} (hr : r < pw k) : dmulZ st k x y r % p = dmulZ st k x' y' r % p := by
 unfold dmulZ
 refine sumTo_mod p fun i hi => ?_
 refine md_mul _ ?_
 rw [Int.mul_emod, hx i hi, hy _ (xor_lt hi hr), ← Int.mul_emod]
/-- The places of a product. -/
theorem dblL_at {p : Int} (hp : 0 < p) (k : Nat) (st : List Int) {x y : List Int} (hx : x.length = pw k) (hy : y.length = pw k) {r : Nat} (hr : r < pw k) : gV (dblL p k st x y) r = dmulZ st k (gV x) (gV y) r % p := by
 have h := dbl_co p k st x y hx hy r hr
 have hn := (dblL_nums hp k st x y).getD hp r
 rw [Int.emod_eq_of_lt hn.1 hn.2] at h
 exact h
theorem dblL_md {p : Int} (k : Nat) (st : List Int) {x y : List Int} (hx : x.length = pw k) (hy : y.length = pw k) {r : Nat} (hr : r < pw k) : gV (dblL p k st x y) r % p = dmulZ st k (gV x) (gV y) r % p := dbl_co p k st x y hx hy r hr
theorem xor_pw {k i j : Nat} (hi : i < pw k) (hj : j < pw k) : i ^^^ j < pw k := Nat.xor_lt_two_pow hi hj
theorem bt_01 (b i : Nat) : bt b i = 0 ∨ bt b i = 1 := by unfold bt; split <;> simp
theorem prT_unit {p : Int} (hP : isP p = true) : ∀ {k : Nat} {f : Nat → Int}, (∀ b, b < k → f b % p ≠ 0) → prT k f % p ≠ 0
 | 0, _, _ => by
  have := isP_ge hP
  show (1 : Int) % p ≠ 0
  rw [Int.emod_eq_of_lt (by omega) (by omega)]; decide
 | k + 1, f, h => by
  show (prT k f * f k) % p ≠ 0
  exact unit_mul hP (prT_unit hP fun b hb => h b (by omega)) (h k (by omega))
theorem pow_unit {p : Int} (hP : isP p = true) {a : Int} (ha : a % p ≠ 0) : ∀ e : Nat, a ^ e % p ≠ 0
 | 0 => by
  have := isP_ge hP
  rw [Int.pow_zero, Int.emod_eq_of_lt (by omega) (by omega)]; decide
 | e + 1 => by rw [Int.pow_succ]; exact unit_mul hP (pow_unit hP ha e) ha
/-- The steps of the bits that two numbers share; of all others. -/
def scD (st : List Int) (k h y : Nat) : Int := prT k fun b => st.getD b 0 ^ (bt b h * bt b y)
def scD' (st : List Int) (k h y : Nat) : Int := prT k fun b => st.getD b 0 ^ (1 - bt b h * bt b y)
def scAll (st : List Int) (k : Nat) : Int := prT k fun b => st.getD b 0
theorem scD_all (st : List Int) (k h y : Nat) : scD st k h y * scD' st k h y = scAll st k := by
 unfold scD scD' scAll
 rw [← prT_mul]
 refine prT_congr fun b _ => ?_
 rw [← Int.pow_add]
 rcases bt_01 b h with e1 | e1 <;> rcases bt_01 b y with e2 | e2 <;> rw [e1, e2] <;> exact Int.pow_one _
def posD (k h y : Nat) : Nat := (y ^^^ h) * pw k + y
theorem cD_sc {st : List Int} {k i q h y : Nat} (hi : i < pw k) (hq : q < pw k) (e : Nat → Nat) (he : ∀ b, bt b i * bt b q + bt b h * bt b y = e b) : cD st k i q * scD st k h y = sgD k i q * prT k fun b => st.getD b 0 ^ e b := by
 rw [cD_parts st k k (Nat.le_refl k) hi hq, Int.mul_assoc]
 congr 1
 unfold scD
 rw [← prT_mul]
 refine prT_congr fun b _ => ?_
 rw [← Int.pow_add, he b]
theorem unit_dvd {p : Int} (hP : isP p = true) {c a : Int} (hc : c % p ≠ 0) : p ∣ c * a ↔ p ∣ a :=
 ⟨fun h => Int.dvd_of_emod_eq_zero (unit_cancel' hP hc (by rw [Int.mul_comm]; exact Int.emod_eq_zero_of_dvd h)), fun h => Int.dvd_mul_of_dvd_right h⟩
theorem posD_lt {k h y : Nat} (hh : h < pw k) (hy : y < pw k) : posD k h y < pw k * pw k := by
 unfold posD
 have h1 := xor_pw hy hh
 calc (y ^^^ h) * pw k + y < (y ^^^ h) * pw k + pw k := by omega
   _ = ((y ^^^ h) + 1) * pw k := by rw [Nat.add_mul, Nat.one_mul]
   _ ≤ pw k * pw k := Nat.mul_le_mul_right _ h1
theorem posD_div {k h y : Nat} (hy : y < pw k) : posD k h y / pw k = y ^^^ h ∧ posD k h y % pw k = y := by
 unfold posD
 have hp : 0 < pw k := pw_pos k
 exact ⟨by rw [Nat.mul_comm, Nat.mul_add_div hp, Nat.div_eq_of_lt hy, Nat.add_zero], by rw [Nat.mul_comm, Nat.mul_add_mod, Nat.mod_eq_of_lt hy]⟩
def dgZ (st : List Int) (k i : Nat) : Int := cjS i * cD st k i i
def fmZ (st : List Int) (k i j : Nat) : Int := 2 * (cD st k i j * cD st k (i ^^^ j) (i ^^^ j))
/-- The equations of local triples: all three are skew; and the local law. -/
def LocEq (p : Int) (st : List Int) (k : Nat) (v : Nat → Int) : Prop :=
 (∀ part i q, part < 3 → i < pw k → q < pw k → p ∣ v (part * (pw k * pw k) + (i * pw k + q)) * dgZ st k i + v (part * (pw k * pw k) + (q * pw k + i)) * dgZ st k q) ∧
 ∀ i j q, i < pw k → j < pw k → q < pw k → p ∣ v ((j ^^^ q) * pw k + i) * fmZ st k (j ^^^ q) j + v (pw k * pw k + ((i ^^^ q) * pw k + j)) * fmZ st k i (i ^^^ q) + v (2 * (pw k * pw k) + ((i ^^^ j) * pw k + q)) * fmZ st k i j
def posT (k h y : Nat) : Nat := y / pw k * (pw k * pw k) + posD k h (y % pw k)
theorem at_part {k part y : Nat} (hy : y < pw k) : (part * pw k + y) / pw k = part ∧ (part * pw k + y) % pw k = y := by
 have hp := pw_pos k
 exact ⟨by rw [Nat.mul_comm, Nat.mul_add_div hp, Nat.div_eq_of_lt hy, Nat.add_zero], by rw [Nat.mul_comm, Nat.mul_add_mod, Nat.mod_eq_of_lt hy]⟩
theorem key_sc {st : List Int} {k h x : Nat} {c s T : Int} (y : Int) (e : c * scD st k h x = s * T) : scAll st k * (y * c) = T * (s * (y * scD' st k h x)) := by
 rw [← scD_all st k h x]
 calc scD st k h x * scD' st k h x * (y * c) = (c * scD st k h x) * (y * scD' st k h x) := by ac_rfl
   _ = _ := by rw [e]; ac_rfl
theorem prT3 {st : List Int} {k : Nat} {a b c : Nat → Nat} (e : Nat → Nat) (he : ∀ q, a q + b q + c q = e q) : (prT k fun q => st.getD q 0 ^ a q) * (prT k fun q => st.getD q 0 ^ b q) * (prT k fun q => st.getD q 0 ^ c q) = prT k fun q => st.getD q 0 ^ e q := by
 rw [← prT_mul, ← prT_mul]
 refine prT_congr fun q _ => ?_
 rw [← Int.pow_add, ← Int.pow_add, he q]
theorem skew_part (st : List Int) {k h b part : Nat} (hb : b < pw k) (hh : h < pw k) (v : Nat → Int) :
    scAll st k * (v (posT k h (part * pw k + b)) * dgZ st k (b ^^^ h) + v (posT k h (part * pw k + (b ^^^ h))) * dgZ st k b) = (prT k fun q => st.getD q 0 ^ (bt q b * bt q b + bt q h * ((bt q b + bt q h) % 2))) * fEv [(part * pw k + b, dg k (b ^^^ h)), (part * pw k + (b ^^^ h), dg k b)] (fun y => v (posT k h y) * scD' st k h (y % pw k)) := by
 obtain ⟨T, hT⟩ : ∃ T, T = prT k fun q => st.getD q 0 ^ (bt q b * bt q b + bt q h * ((bt q b + bt q h) % 2)) := ⟨_, rfl⟩
 have hbh := xor_pw hb hh
 have e1 : dgZ st k (b ^^^ h) * scD st k h b = dg k (b ^^^ h) * T := by
  unfold dgZ dg
  rw [Int.mul_assoc, Int.mul_assoc, hT, cD_sc hbh hbh _ fun q => ?_]
  rw [bt_xor]
  rcases bt_01 q b with x | x <;> rcases bt_01 q h with y | y <;> rw [x, y]
 have e2 : dgZ st k b * scD st k h (b ^^^ h) = dg k b * T := by
  unfold dgZ dg
  rw [Int.mul_assoc, Int.mul_assoc, hT, cD_sc hb hb _ fun q => by rw [bt_xor]]
 rw [← hT]
 show _ = T * (dg k (b ^^^ h) * (v (posT k h (part * pw k + b)) * scD' st k h ((part * pw k + b) % pw k)) + (dg k b * (v (posT k h (part * pw k + (b ^^^ h))) * scD' st k h ((part * pw k + (b ^^^ h)) % pw k)) + 0))
 rw [(at_part hb).2, (at_part hbh).2, Int.add_zero, Int.mul_add, Int.mul_add, key_sc _ e1, key_sc _ e2]
theorem form_part (st : List Int) {k h i j : Nat} (hi : i < pw k) (hj : j < pw k) (hh : h < pw k) (v : Nat → Int) :
    scAll st k * (v (posT k h i) * fmZ st k (i ^^^ h) j + v (posT k h (pw k + j)) * fmZ st k i (j ^^^ h) + v (posT k h (2 * pw k + (i ^^^ j ^^^ h))) * fmZ st k i j) = 2 * ((prT k fun q => st.getD q 0 ^ (bt q i * bt q j + (bt q i + bt q j) % 2 + bt q h * (((bt q i + bt q j) % 2 + bt q h) % 2))) * fEv [(i, sgD k (i ^^^ h) j * sgD k (i ^^^ j ^^^ h) (i ^^^ j ^^^ h)), (pw k + j, sgD k i (j ^^^ h) * sgD k (i ^^^ j ^^^ h) (i ^^^ j ^^^ h)), (2 * pw k + (i ^^^ j ^^^ h), sgD k i j * sgD k (i ^^^ j) (i ^^^ j))] (fun y => v (posT k h y) * scD' st k h (y % pw k))) := by
 obtain ⟨T, hT⟩ : ∃ T, T = prT k fun q => st.getD q 0 ^ (bt q i * bt q j + (bt q i + bt q j) % 2 + bt q h * (((bt q i + bt q j) % 2 + bt q h) % 2)) := ⟨_, rfl⟩
 have hij := xor_pw hi hj
 have hq := xor_pw hij hh
 have hih := xor_pw hi hh
 have hjh := xor_pw hj hh
 have x1 : (i ^^^ h) ^^^ j = i ^^^ j ^^^ h := by rw [Nat.xor_assoc, Nat.xor_comm h j, ← Nat.xor_assoc]
 have x2 : i ^^^ (j ^^^ h) = i ^^^ j ^^^ h := by rw [Nat.xor_assoc]
 have one : ∀ {a c x : Nat}, a < pw k → c < pw k → (∀ q, bt q a * bt q c + bt q (a ^^^ c) * bt q (a ^^^ c) + bt q h * bt q x = bt q i * bt q j + (bt q i + bt q j) % 2 + bt q h * (((bt q i + bt q j) % 2 + bt q h) % 2)) → fmZ st k a c * scD st k h x = (2 * (sgD k a c * sgD k (a ^^^ c) (a ^^^ c))) * T := fun {a c x} ha hc he => by
  unfold fmZ
  rw [cD_parts st k k (Nat.le_refl k) ha hc, cD_parts st k k (Nat.le_refl k) (xor_pw ha hc) (xor_pw ha hc), hT]
  unfold scD
  rw [← prT3 (st := st) (k := k) _ he]
  unfold sgD
  ac_rfl
 have e1 := one (x := i) hih hj fun q => by
  simp only [bt_xor]
  rcases bt_01 q i with x | x <;> rcases bt_01 q j with y | y <;> rcases bt_01 q h with z | z <;> rw [x, y, z]
 have e2 := one (x := j) hi hjh fun q => by
  simp only [bt_xor]
  rcases bt_01 q i with x | x <;> rcases bt_01 q j with y | y <;> rcases bt_01 q h with z | z <;> rw [x, y, z]
 have e3 := one (x := i ^^^ j ^^^ h) hi hj fun q => by
  simp only [bt_xor]
  rcases bt_01 q i with x | x <;> rcases bt_01 q j with y | y <;> rcases bt_01 q h with z | z <;> rw [x, y, z]
 rw [x1] at e1
 rw [x2] at e2
 rw [← hT]
 have a0 : i % pw k = i := Nat.mod_eq_of_lt hi
 have a1 : (pw k + j) % pw k = j := by have := (at_part (part := 1) hj).2; rwa [Nat.one_mul] at this
 have a2 := (at_part (part := 2) hq).2
 show _ = 2 * (T * (sgD k (i ^^^ h) j * sgD k (i ^^^ j ^^^ h) (i ^^^ j ^^^ h) * (v (posT k h i) * scD' st k h (i % pw k)) + (sgD k i (j ^^^ h) * sgD k (i ^^^ j ^^^ h) (i ^^^ j ^^^ h) * (v (posT k h (pw k + j)) * scD' st k h ((pw k + j) % pw k)) + (sgD k i j * sgD k (i ^^^ j) (i ^^^ j) * (v (posT k h (2 * pw k + (i ^^^ j ^^^ h))) * scD' st k h ((2 * pw k + (i ^^^ j ^^^ h)) % pw k)) + 0))))
 rw [a0, a1, a2, Int.add_zero, Int.mul_add, Int.mul_add, key_sc _ e1, key_sc _ e2, key_sc _ e3]
 rw [Int.mul_add, Int.mul_add, Int.mul_add, Int.mul_add, Int.add_assoc]
 have w : ∀ a b : Int, T * (2 * a * b) = 2 * (T * (a * b)) := fun a b => by ac_rfl
 rw [w, w, w]
theorem loc_iff {p : Int} (hP : isP p = true) {st : List Int} {k : Nat} (hst : ∀ b, b < k → st.getD b 0 % p ≠ 0) (v : Nat → Int) : LocEq p st k v ↔ ∀ h, h < pw k → ∀ l, l ∈ eqT k h → p ∣ fEv l fun y => v (posT k h y) * scD' st k h (y % pw k) := by
 have hge := isP_ge hP
 have hS : scAll st k % p ≠ 0 := prT_unit hP hst
 have h2 : (2 : Int) % p ≠ 0 := by rw [Int.emod_eq_of_lt (by omega) (by omega)]; decide
 have hTu : ∀ e : Nat → Nat, (prT k fun b => st.getD b 0 ^ e b) % p ≠ 0 := fun e => prT_unit hP fun b hb => pow_unit hP (hst b hb) _
 have sk : ∀ {part b h : Nat}, b < pw k → h < pw k → (p ∣ v (part * (pw k * pw k) + ((b ^^^ h) * pw k + b)) * dgZ st k (b ^^^ h) + v (part * (pw k * pw k) + (b * pw k + (b ^^^ h))) * dgZ st k b ↔ p ∣ fEv [(part * pw k + b, dg k (b ^^^ h)), (part * pw k + (b ^^^ h), dg k b)] (fun y => v (posT k h y) * scD' st k h (y % pw k))) := fun {part b h} hb hh => by
  have e := skew_part st (part := part) hb hh v
  have q1 : posT k h (part * pw k + b) = part * (pw k * pw k) + ((b ^^^ h) * pw k + b) := by unfold posT posD; rw [(at_part hb).1, (at_part hb).2]
  have q2 : posT k h (part * pw k + (b ^^^ h)) = part * (pw k * pw k) + (b * pw k + (b ^^^ h)) := by unfold posT posD; rw [(at_part (xor_pw hb hh)).1, (at_part (xor_pw hb hh)).2, Nat.xor_assoc, Nat.xor_self, Nat.xor_zero]
  rw [q1, q2] at e
  rw [← unit_dvd hP hS, e, unit_dvd hP (hTu _)]
 have fo : ∀ {i j h : Nat}, i < pw k → j < pw k → h < pw k → (p ∣ v ((i ^^^ h) * pw k + i) * fmZ st k (i ^^^ h) j + v (pw k * pw k + ((j ^^^ h) * pw k + j)) * fmZ st k i (j ^^^ h) + v (2 * (pw k * pw k) + ((i ^^^ j) * pw k + (i ^^^ j ^^^ h))) * fmZ st k i j ↔ p ∣ fEv [(i, sgD k (i ^^^ h) j * sgD k (i ^^^ j ^^^ h) (i ^^^ j ^^^ h)), (pw k + j, sgD k i (j ^^^ h) * sgD k (i ^^^ j ^^^ h) (i ^^^ j ^^^ h)), (2 * pw k + (i ^^^ j ^^^ h), sgD k i j * sgD k (i ^^^ j) (i ^^^ j))] (fun y => v (posT k h y) * scD' st k h (y % pw k))) := fun {i j h} hi hj hh => by
  have e := form_part st hi hj hh v
  have hq := xor_pw (xor_pw hi hj) hh
  have q0 : posT k h i = (i ^^^ h) * pw k + i := by
   have := at_part (k := k) (part := 0) hi
   rw [Nat.zero_mul, Nat.zero_add] at this
   unfold posT posD; rw [this.1, this.2, Nat.zero_mul, Nat.zero_add]
  have q1 : posT k h (pw k + j) = pw k * pw k + ((j ^^^ h) * pw k + j) := by
   have := at_part (k := k) (part := 1) hj
   rw [Nat.one_mul] at this
   unfold posT posD; rw [this.1, this.2, Nat.one_mul]
  have q2 : posT k h (2 * pw k + (i ^^^ j ^^^ h)) = 2 * (pw k * pw k) + ((i ^^^ j) * pw k + (i ^^^ j ^^^ h)) := by
   unfold posT posD; rw [(at_part hq).1, (at_part hq).2, Nat.xor_assoc (i ^^^ j), Nat.xor_self, Nat.xor_zero]
  rw [q0, q1, q2] at e
  rw [← unit_dvd hP hS, e, unit_dvd hP h2, unit_dvd hP (hTu _)]
 unfold LocEq eqT
 constructor
 · rintro ⟨l1, l2⟩ h hh l hl
   rcases List.mem_append.1 hl with hl | hl
   · obtain ⟨part, hp, hl⟩ := List.mem_flatMap.1 hl
     obtain ⟨b, hb, rfl⟩ := List.mem_map.1 hl
     rw [List.mem_range] at hp hb
     exact (sk hb hh).1 (l1 part (b ^^^ h) b hp (xor_pw hb hh) hb)
   · obtain ⟨i, hi, hl⟩ := List.mem_flatMap.1 hl
     obtain ⟨j, hj, rfl⟩ := List.mem_map.1 hl
     rw [List.mem_range] at hi hj
     refine (fo hi hj hh).1 ?_
     have := l2 i j (i ^^^ j ^^^ h) hi hj (xor_pw (xor_pw hi hj) hh)
     have e1 : j ^^^ (i ^^^ j ^^^ h) = i ^^^ h := by rw [Nat.xor_comm i j, Nat.xor_assoc, ← Nat.xor_assoc, Nat.xor_self, Nat.zero_xor]
     have e2 : i ^^^ (i ^^^ j ^^^ h) = j ^^^ h := by rw [Nat.xor_assoc, ← Nat.xor_assoc, Nat.xor_self, Nat.zero_xor]
     rw [e1, e2] at this
     exact this
 · intro hl
   refine ⟨fun part i q hp hi hq => ?_, fun i j q hi hj hq => ?_⟩
   · have hh := xor_pw hi hq
     have h1 := (sk (part := part) hq hh).2 (hl _ hh _ (List.mem_append.2 (.inl (List.mem_flatMap.2 ⟨part, List.mem_range.2 hp, List.mem_map.2 ⟨q, List.mem_range.2 hq, rfl⟩⟩))))
     have e : q ^^^ (i ^^^ q) = i := by rw [Nat.xor_comm i q, ← Nat.xor_assoc, Nat.xor_self, Nat.zero_xor]
     rw [e] at h1
     exact h1
   · have hh := xor_pw (xor_pw hi hj) hq
     have h1 := (fo hi hj hh).2 (hl _ hh _ (List.mem_append.2 (.inr (List.mem_flatMap.2 ⟨i, List.mem_range.2 hi, List.mem_map.2 ⟨j, List.mem_range.2 hj, rfl⟩⟩))))
     have e0 : i ^^^ j ^^^ (i ^^^ j ^^^ q) = q := by rw [← Nat.xor_assoc, Nat.xor_self, Nat.zero_xor]
     have e1 : i ^^^ (i ^^^ j ^^^ q) = j ^^^ q := by rw [Nat.xor_assoc, ← Nat.xor_assoc, Nat.xor_self, Nat.zero_xor]
     have e2 : j ^^^ (i ^^^ j ^^^ q) = i ^^^ q := by rw [Nat.xor_comm i j, Nat.xor_assoc, ← Nat.xor_assoc, Nat.xor_self, Nat.zero_xor]
     rw [e0, e1, e2] at h1
     exact h1
def locN (k : Nat) : Nat := [0, 2, 9, 28].getD k 0
theorem loc_dim {p : Int} (hP : isP p = true) {st : List Int} {k : Nat} (hk : k ≤ 3) (hst : ∀ b, b < k → st.getD b 0 % p ≠ 0) {m : List (List Int)} (hT : Tab p (3 * (pw k * pw k)) m) (h : ∀ v, Orth p (3 * (pw k * pw k)) m v ↔ LocEq p st k v) : (kernL p m (3 * (pw k * pw k))).length = locN k := by
 have hp := pw_pos k
 have hpp : 0 < pw k * pw k := Nat.mul_pos hp hp
 have hpart : ∀ {a b : Nat}, b < pw k * pw k → (a * (pw k * pw k) + b) / (pw k * pw k) = a ∧ (a * (pw k * pw k) + b) % (pw k * pw k) = b := fun {a b} hb =>
  ⟨by rw [Nat.mul_comm, Nat.mul_add_div hpp, Nat.div_eq_of_lt hb, Nat.add_zero], by rw [Nat.mul_comm, Nat.mul_add_mod, Nat.mod_eq_of_lt hb]⟩
 have hgo : ∀ T certs, chkG (eqT k) (pw k) (3 * pw k) T certs = true → (kernL p m (3 * (pw k * pw k))).length = T.length := fun T certs hc =>
  graded_dim hP hT (posT k) (fun q => (q % (pw k * pw k) % pw k) ^^^ (q % (pw k * pw k) / pw k)) (fun q => q / (pw k * pw k) * pw k + q % (pw k * pw k) % pw k) (fun h y => scD st k h (y % pw k)) (fun h y => scD' st k h (y % pw k)) (scAll st k) (prT_unit hP hst) (eqT k) T certs
   (fun q hq => by
    have h3 : q / (pw k * pw k) < 3 := Nat.div_lt_of_lt_mul (by rw [Nat.mul_comm]; exact hq)
    have hr : q % (pw k * pw k) < pw k * pw k := Nat.mod_lt q hpp
    have hd : q % (pw k * pw k) / pw k < pw k := Nat.div_lt_of_lt_mul hr
    have hm : q % (pw k * pw k) % pw k < pw k := Nat.mod_lt _ hp
    refine ⟨xor_pw hm hd, ?_, ?_⟩
    · calc q / (pw k * pw k) * pw k + q % (pw k * pw k) % pw k < q / (pw k * pw k) * pw k + pw k := by omega
        _ = (q / (pw k * pw k) + 1) * pw k := by rw [Nat.add_mul, Nat.one_mul]
        _ ≤ 3 * pw k := Nat.mul_le_mul_right _ h3
    · unfold posT posD
      rw [(at_part hm).1, (at_part hm).2, ← Nat.xor_assoc, Nat.xor_self, Nat.zero_xor, Nat.mul_comm (q % (pw k * pw k) / pw k), Nat.div_add_mod, Nat.mul_comm (q / (pw k * pw k)), Nat.div_add_mod])
   (fun h' y hh hy => by
    have hd : y / pw k < 3 := Nat.div_lt_of_lt_mul (by rw [Nat.mul_comm]; exact hy)
    have hm : y % pw k < pw k := Nat.mod_lt y hp
    have hpl := posD_lt hh hm
    have e1 := (hpart (a := y / pw k) hpl).1
    have e2 := (hpart (a := y / pw k) hpl).2
    refine ⟨?_, ?_, ?_⟩
    · unfold posT
      calc y / pw k * (pw k * pw k) + posD k h' (y % pw k) < y / pw k * (pw k * pw k) + pw k * pw k := by omega
        _ = (y / pw k + 1) * (pw k * pw k) := by rw [Nat.add_mul, Nat.one_mul]
        _ ≤ 3 * (pw k * pw k) := Nat.mul_le_mul_right _ hd
    · show posT k h' y % (pw k * pw k) % pw k ^^^ posT k h' y % (pw k * pw k) / pw k = h'
      unfold posT
      rw [e2, (posD_div hm).1, (posD_div hm).2, ← Nat.xor_assoc, Nat.xor_self, Nat.zero_xor]
    · show posT k h' y / (pw k * pw k) * pw k + posT k h' y % (pw k * pw k) % pw k = y
      unfold posT
      rw [e1, e2, (posD_div hm).2, Nat.mul_comm, Nat.div_add_mod])
   (fun h' y _ _ => scD_all st k h' (y % pw k))
   (fun v => (h v).trans (loc_iff hP hst v)) hc
 have hk4 : k = 0 ∨ k = 1 ∨ k = 2 ∨ k = 3 := by omega
 rcases hk4 with rfl | rfl | rfl | rfl
 · exact (hgo tT0 cT0 chkT0).trans lenT0
 · exact (hgo tT1 cT1 chkT1).trans lenT1
 · exact (hgo tT2 cT2 chkT2).trans lenT2
 · exact (hgo tT3 cT3 chkT3).trans lenT3
/-- The numbers of the products of the basis. -/
def prodM (p : Int) (k : Nat) (st : List Int) : List (List Int) := tab (pw k) fun i => tab (pw k) fun q => (dblL p k st (unitRow (pw k) i) (unitRow (pw k) q)).getD (i ^^^ q) 0
theorem gV_unit {n i : Nat} (hi : i < n) (j : Nat) : gV (unitRow n i) j = if i = j then 1 else 0 := by
 unfold gV unitRow
 rw [getD_set, List.length_replicate]
 by_cases h : i = j
 · rw [if_pos ⟨h, hi⟩, if_pos h]
 · rw [if_neg (fun e => h e.1), if_neg h]
   by_cases hj : j < n
   · rw [getD_of_lt 0 (by simpa using hj)]; simp
   · rw [getD_of_ge 0 (by simp; omega)]
theorem prodM_ent {p : Int} (hp : 0 < p) {k : Nat} (st : List Int) {i q : Nat} (hi : i < pw k) (hq : q < pw k) : ent (prodM p k st) i q = cD st k i q % p := by
 have h1 : ent (prodM p k st) i q = gV (dblL p k st (unitRow (pw k) i) (unitRow (pw k) q)) (i ^^^ q) := by unfold ent prodM gV; rw [tab_getD hi, tab_getD hq]
 rw [h1, dblL_at hp k st (unitRow_len _ _) (unitRow_len _ _) (xor_pw hi hq)]
 unfold dmulZ
 rw [sumTo_one i hi (fun j _ hj => by rw [gV_unit hi, if_neg (Ne.symm hj)]; simp), gV_unit hi, if_pos rfl, ← Nat.xor_assoc, Nat.xor_self, Nat.zero_xor, gV_unit hq, if_pos rfl, Int.one_mul, Int.one_mul]
theorem prodM_tab {p : Int} (hp : 0 < p) (k : Nat) (st : List Int) : Tab p (pw k) (prodM p k st) := Tab.tab fun i _ => ⟨tab_len _ _, NumsL.tab fun q _ => (dblL_nums hp _ _ _ _).getD hp _⟩
/-- A number is added at a place. -/
def addAt (p : Int) (row : List Int) (a : Nat) (c : Int) : List Int := row.set a ((row.getD a 0 + c) % p)
theorem addAt_len (p : Int) (row : List Int) (a : Nat) (c : Int) : (addAt p row a c).length = row.length := List.length_set
theorem addAt_nums {p : Int} (hp : 0 < p) {row : List Int} (h : NumsL p row) (a : Nat) (c : Int) : NumsL p (addAt p row a c) := h.set a ⟨Int.emod_nonneg _ (by omega), Int.emod_lt_of_pos _ hp⟩
theorem addAt_dot (p : Int) {row : List Int} {a N : Nat} (c : Int) (ha : a < N) (hl : row.length = N) (v : Nat → Int) : (sumTo N fun q => (addAt p row a c).getD q 0 * v q) % p = ((sumTo N fun q => row.getD q 0 * v q) + c * v a) % p := by
 have e : (sumTo N fun q => (addAt p row a c).getD q 0 * v q) = (sumTo N fun q => row.getD q 0 * v q + (if q = a then ((row.getD a 0 + c) % p - row.getD a 0) * v a else 0)) := sumTo_congr fun q _ => by
  unfold addAt
  rw [getD_set, hl]
  by_cases h : a = q
  · subst h
    rw [if_pos ⟨rfl, ha⟩, if_pos rfl, Int.sub_mul]; omega
  · rw [if_neg (fun h' => h h'.1), if_neg (fun h' => h h'.symm)]; omega
 rw [e, sumTo_add, sumTo_one (f := fun q => if q = a then ((row.getD a 0 + c) % p - row.getD a 0) * v a else 0) a ha (fun q _ hq => if_neg hq), if_pos rfl, Int.add_emod, Int.mul_emod, Int.sub_emod, Int.emod_emod_of_dvd _ (Int.dvd_refl p), ← Int.sub_emod, ← Int.mul_emod, ← Int.add_emod, show row.getD a 0 + c - row.getD a 0 = c by omega]
theorem at_lt {n a b : Nat} (ha : a < n) (hb : b < n) : a * n + b < n * n := by
 have := Nat.mul_le_mul_right n (show a + 1 ≤ n by omega)
 rw [Nat.add_mul, Nat.one_mul] at this; omega
end Go.Proofs.YtaiegpggccdgoaaGreat
namespace Go.Proofs.YtaiegpggccdgoaaGreat
open Go.RowKit
/-- Is it a doubling? -/
def isDb (p : Int) (st : List Int) : Bool := isP p && decide (st.length ≤ 4) && nums p st && !st.contains 0
set_option maxHeartbeats 1600000 in
set_option maxRecDepth 8000 in
theorem IsDoubling_any (p : Int) (A : Option Addr) (k c : Nat) (st : List Int) (w : World) (hk6 : k ≤ 65536) (ha : Rd w A k (ints st)) :
    Calls Tryz.prog 78 #[.agg #[.int .i64 p, .slice A k c]] w fun e w' => e = .returned (.bool (isDb p st)) ∧ Below w.heap.size w w' := by
 have hB0 : Below w.heap.size w (w.alloc (.cells #[.int .i64 p, .slice A k c] 26)) := zG.alloc (Nat.le_refl _) _
 have k0 : Blk (w.alloc (.cells #[.int .i64 p, .slice A k c] 26)) w.heap.size 26 #[.int .i64 p, .slice A k c] := Blk.new _ _ _
 have hxl : st.length = k := ha.lenI
 have Hx := Lib.hid hxl
 clear hxl
 cases h1 : isP p
 · have H1 := Lib.hid h1
   clear h1
   go_enter Tryz.func78, Tryz.ntmps78
   go_wp2
   refine wp_obs 23 [[],[0],[0,1],[0,1,2],[0,1,2,3],[0,1,2,3,4],[0,1,2,3,4,5],[0,1,2,3,4,5,6],[0,1,2,3,4,5,6,7],[0,1,2,3,4,5,6,7,8],[0,1,2,3,4,5,6,7,8,9],[0,1,2,3,4,5,6,7,8,9,10],[0,1,2,3,4,5,6,7,8,9],[0,1,2,3,4,5,6,7,8,9,12],[0,1,2,3,4,5,6,7,8,9,10,11,12,13],[0,1,2,3,4,5,6,7,8,9,10,11,12,13,14],[0,1,2,3,4,5,6,7,8,9,10,11,12,13,14,15],[0,1,2,3,4,5,6,7,8,9,10,11,12,13,14,15,16],[0,1,2,3,4,5,6,7,8,9,10,11,12,13,14,15,16,17],[0,1,2,3,4,5,6,7,8,9,10,11,12,13,14,15,16,17,18],[0,1,2,3,4,5,6,7,8,9,10,11,12,13,14,15,16,17,18,19],[0,1,2,3,4,5,6,7,8,9,10,11,12,13,14,15,16,17,18,19,20],[0,1,2,3,4,5,6,7,8,9,10,11,12,13,14,15,16,17,18,19,20,21]] [VIs (.pointer (some ⟨w.heap.size, 0, none⟩)), VIs (.int .i64 (p)), VIs (.bool false), VIs (.bool false), VIs undef, VIs undef, VIs undef, VIs undef, VIs (.bool false), VIs (.bool false), VIs undef, VIs undef, VIs undef, VIs undef, VIs undef, VIs (.bool false), VIs (.bool false), VIs undef, VIs undef, VIs undef, VIs undef, VIs (.bool false), VIs (.bool false)] (fun w' => Blk w' w.heap.size 26 #[.int .i64 p, .slice A k c] ∧ Below w.heap.size w w') (by kernel_rfl) (by kernel_rfl) (fun _ _ h hb => ⟨h.1.below hb h.1.lt, h.2.trans (hb.mono h.2.size)⟩) (⟨k0.drew, hB0.drew⟩) (fun x => ?_)
   refine zS (fun w' hS hV K hK => ?_) ?_
   · obtain ⟨q0, q1⟩ := hS.1.two; go_simp; exact zO hK
   refine zS (fun w' hS hV K hK => ?_) ?_
   · have e0 := zQ hV 0; obtain ⟨q0, q1⟩ := hS.1.two; go_simp; exact zO hK
   refine zS (fun w' hS hV K hK => ?_) ?_
   · have e1 := zQ hV 1; obtain ⟨q0, q1⟩ := hS.1.two; go_simp; refine (IsPrime_b _ _ H1.out).mono ?_; rintro e v1 ⟨rfl, rfl⟩; exact zO hK
   refine zS (fun w' hS hV K hK => ?_) ?_
   · have e2 := zQ hV 2; obtain ⟨q0, q1⟩ := hS.1.two; go_simp; exact zO hK
   refine zS (fun w' hS hV K hK => ?_) ?_
   · have e3 := zQ hV 3; obtain ⟨q0, q1⟩ := hS.1.two; go_simp; exact zO hK
   refine zS (fun w' hS hV K hK => ?_) ?_
   · have e3 := zQ hV 3; have e4 := zQ hV 4; obtain ⟨q0, q1⟩ := hS.1.two; go_simp; exact zO hK
   refine zS (fun w' hS hV K hK => ?_) ?_
   · have e3 := zQ hV 3; have e5 := zQ hV 5; obtain ⟨q0, q1⟩ := hS.1.two; go_simp; exact zO hK
   refine zS (fun w' hS hV K hK => ?_) ?_
   · have e3 := zQ hV 3; have e6 := zQ hV 6; obtain ⟨q0, q1⟩ := hS.1.two; go_simp; exact zO hK
   refine zS (fun w' hS hV K hK => ?_) ?_
   · have e3 := zQ hV 3; have e7 := zQ hV 7; obtain ⟨q0, q1⟩ := hS.1.two; go_simp; exact zO hK
   refine zS (fun w' hS hV K hK => ?_) ?_
   · have e8 := zQ hV 8; obtain ⟨q0, q1⟩ := hS.1.two; go_simp; exact zO hK
   refine zS (fun w' hS hV K hK => ?_) ?_
   · have e9 := zQ hV 9; obtain ⟨q0, q1⟩ := hS.1.two; go_simp; exact zO hK
   refine zS (fun w' hS hV K hK => ?_) ?_
   · have e9 := zQ hV 9; have e10 := zQ hV 10; obtain ⟨q0, q1⟩ := hS.1.two; go_simp; exact zO hK
   refine zS (fun w' hS hV K hK => ?_) ?_
   · have e9 := zQ hV 9; obtain ⟨q0, q1⟩ := hS.1.two; go_simp; exact zO hK
   refine zS (fun w' hS hV K hK => ?_) ?_
   · have e9 := zQ hV 9; have e12 := zQ hV 12; obtain ⟨q0, q1⟩ := hS.1.two; go_simp; exact zO hK
   refine zS (fun w' hS hV K hK => ?_) ?_
   · have e9 := zQ hV 9; have e11 := zQ hV 11; have e13 := zQ hV 13; obtain ⟨q0, q1⟩ := hS.1.two; go_simp; exact zO hK
   refine zS (fun w' hS hV K hK => ?_) ?_
   · have e9 := zQ hV 9; have e14 := zQ hV 14; obtain ⟨q0, q1⟩ := hS.1.two; go_simp; exact zO hK
   refine zS (fun w' hS hV K hK => ?_) ?_
   · have e15 := zQ hV 15; obtain ⟨q0, q1⟩ := hS.1.two; go_simp; exact zO hK
   refine zS (fun w' hS hV K hK => ?_) ?_
   · have e16 := zQ hV 16; obtain ⟨q0, q1⟩ := hS.1.two; go_simp; exact zO hK
   refine zS (fun w' hS hV K hK => ?_) ?_
   · have e16 := zQ hV 16; have e17 := zQ hV 17; obtain ⟨q0, q1⟩ := hS.1.two; go_simp; exact zO hK
   refine zS (fun w' hS hV K hK => ?_) ?_
   · have e16 := zQ hV 16; have e18 := zQ hV 18; obtain ⟨q0, q1⟩ := hS.1.two; go_simp; exact zO hK
   refine zS (fun w' hS hV K hK => ?_) ?_
   · have e16 := zQ hV 16; have e19 := zQ hV 19; obtain ⟨q0, q1⟩ := hS.1.two; go_simp; exact zO hK
   refine zS (fun w' hS hV K hK => ?_) ?_
   · have e16 := zQ hV 16; have e20 := zQ hV 20; obtain ⟨q0, q1⟩ := hS.1.two; go_simp; exact zO hK
   refine zS (fun w' hS hV K hK => ?_) ?_
   · have e21 := zQ hV 21; obtain ⟨q0, q1⟩ := hS.1.two; go_simp; exact zO hK
   refine fun w' hS hV => ?_
   have e0 := zT hV 0
   have e1 := zT hV 1
   have e2 := zT hV 2
   have e3 := zT hV 3
   have e4 := zT hV 4
   have e5 := zT hV 5
   have e6 := zT hV 6
   have e7 := zT hV 7
   have e8 := zT hV 8
   have e9 := zT hV 9
   have e10 := zT hV 10
   have e11 := zT hV 11
   have e12 := zT hV 12
   have e13 := zT hV 13
   have e14 := zT hV 14
   have e15 := zT hV 15
   have e16 := zT hV 16
   have e17 := zT hV 17
   have e18 := zT hV 18
   have e19 := zT hV 19
   have e20 := zT hV 20
   have e21 := zT hV 21
   have e22 := zT hV 22
   simp only [e0, e1, e2, e3, e4, e5, e6, e7, e8, e9, e10, e11, e12, e13, e14, e15, e16, e17, e18, e19, e20, e21, e22]
   clear e0 e1 e2 e3 e4 e5 e6 e7 e8 e9 e10 e11 e12 e13 e14 e15 e16 e17 e18 e19 e20 e21 e22
   refine wpAny_done (by kernel_rfl) ?_ _
   go_wp2
   go_ret
   exact ⟨ret_bool (by unfold isDb; rw [Hx.out]; simp [H1.out]), hS.2⟩
 · obtain ⟨hp0, hp1⟩ := isP_pos h1
   have H1 := Lib.hid h1
   clear h1
   by_cases h2 : k ≤ 4
   · have h2' : (k : Int) ≤ 4 := by omega
     cases h3 : nums p st
     · have H3 := Lib.hid h3
       clear h3
       go_enter Tryz.func78, Tryz.ntmps78
       go_wp2
       refine wp_obs 23 [[],[0],[0,1],[0,1,2],[0,1,2,3],[0,1,2,3,4],[0,1,2,3,4,5],[0,1,2,3,4,5,6],[0,1,2,3,4,5,6,7],[0,1,2,3,4,5,6,7,8],[0,1,2,3,4,5,6,7,8,9],[0,1,2,3,4,5,6,7,8,9,10],[0,1,2,3,4,5,6,7,8,9],[0,1,2,3,4,5,6,7,8,9,12],[0,1,2,3,4,5,6,7,8,9,10,11,12,13],[0,1,2,3,4,5,6,7,8,9,10,11,12,13,14],[0,1,2,3,4,5,6,7,8,9,10,11,12,13,14,15],[0,1,2,3,4,5,6,7,8,9,10,11,12,13,14,15,16],[0,1,2,3,4,5,6,7,8,9,10,11,12,13,14,15,16,17],[0,1,2,3,4,5,6,7,8,9,10,11,12,13,14,15,16,17,18],[0,1,2,3,4,5,6,7,8,9,10,11,12,13,14,15,16,17,18,19],[0,1,2,3,4,5,6,7,8,9,10,11,12,13,14,15,16,17,18,19,20],[0,1,2,3,4,5,6,7,8,9,10,11,12,13,14,15,16,17,18,19,20,21]] [VIs (.pointer (some ⟨w.heap.size, 0, none⟩)), VIs (.int .i64 (p)), VIs (.bool true), VIs (.bool true), VIs (.pointer (some ⟨w.heap.size, 1, none⟩)), VIs (.slice A k c), VIs (.int .i64 (k)), VIs (.bool true), VIs (.bool true), VIs (.bool true), VIs (.agg #[.int .i64 p, .slice A k c]), VIs (.int .i64 (p)), VIs (.pointer (some ⟨w.heap.size, 1, none⟩)), VIs (.slice A k c), VIs (.bool false), VIs (.bool false), VIs (.bool false), VIs undef, VIs undef, VIs undef, VIs undef, VIs (.bool false), VIs (.bool false)] (fun w' => Blk w' w.heap.size 26 #[.int .i64 p, .slice A k c] ∧ Below w.heap.size w w') (by kernel_rfl) (by kernel_rfl) (fun _ _ h hb => ⟨h.1.below hb h.1.lt, h.2.trans (hb.mono h.2.size)⟩) (⟨k0.drew, hB0.drew⟩) (fun x => ?_)
       refine zS (fun w' hS hV K hK => ?_) ?_
       · obtain ⟨q0, q1⟩ := hS.1.two; go_simp; exact zO hK
       refine zS (fun w' hS hV K hK => ?_) ?_
       · have e0 := zQ hV 0; obtain ⟨q0, q1⟩ := hS.1.two; go_simp; exact zO hK
       refine zS (fun w' hS hV K hK => ?_) ?_
       · have e1 := zQ hV 1; obtain ⟨q0, q1⟩ := hS.1.two; go_simp; refine (IsPrime_b _ _ H1.out).mono ?_; rintro e v1 ⟨rfl, rfl⟩; exact zO hK
       refine zS (fun w' hS hV K hK => ?_) ?_
       · have e2 := zQ hV 2; obtain ⟨q0, q1⟩ := hS.1.two; go_simp; exact zO hK
       refine zS (fun w' hS hV K hK => ?_) ?_
       · have e3 := zQ hV 3; obtain ⟨q0, q1⟩ := hS.1.two; go_simp; exact zO hK
       refine zS (fun w' hS hV K hK => ?_) ?_
       · have e3 := zQ hV 3; have e4 := zQ hV 4; obtain ⟨q0, q1⟩ := hS.1.two; go_simp; exact zO hK
       refine zS (fun w' hS hV K hK => ?_) ?_
       · have e3 := zQ hV 3; have e5 := zQ hV 5; obtain ⟨q0, q1⟩ := hS.1.two; go_simp; exact zO hK
       refine zS (fun w' hS hV K hK => ?_) ?_
       · have e3 := zQ hV 3; have e6 := zQ hV 6; obtain ⟨q0, q1⟩ := hS.1.two; go_simp; exact zO hK
       refine zS (fun w' hS hV K hK => ?_) ?_
       · have e3 := zQ hV 3; have e7 := zQ hV 7; obtain ⟨q0, q1⟩ := hS.1.two; go_simp; exact zO hK
       refine zS (fun w' hS hV K hK => ?_) ?_
       · have e8 := zQ hV 8; obtain ⟨q0, q1⟩ := hS.1.two; go_simp; exact zO hK
       refine zS (fun w' hS hV K hK => ?_) ?_
       · have e9 := zQ hV 9; obtain ⟨q0, q1⟩ := hS.1.two; go_simp; exact zO hK
       refine zS (fun w' hS hV K hK => ?_) ?_
       · have e9 := zQ hV 9; have e10 := zQ hV 10; obtain ⟨q0, q1⟩ := hS.1.two; go_simp; refine (dfield_any p A k c w').mono ?_; rintro e v1 ⟨rfl, hb⟩; exact hK.out _ _ _ rfl rfl rfl hb
       refine zS (fun w' hS hV K hK => ?_) ?_
       · have e9 := zQ hV 9; obtain ⟨q0, q1⟩ := hS.1.two; go_simp; exact zO hK
       refine zS (fun w' hS hV K hK => ?_) ?_
       · have e9 := zQ hV 9; have e12 := zQ hV 12; obtain ⟨q0, q1⟩ := hS.1.two; go_simp; exact zO hK
       refine zS (fun w' hS hV K hK => ?_) ?_
       · have e9 := zQ hV 9; have e11 := zQ hV 11; have e13 := zQ hV 13; obtain ⟨q0, q1⟩ := hS.1.two; go_simp; refine (is_b p A k c st w' hp0 (by omega) (by omega) (ha.below hS.2) H3.out).mono ?_; rintro e v1 ⟨rfl, rfl⟩; exact zO hK
       refine zS (fun w' hS hV K hK => ?_) ?_
       · have e9 := zQ hV 9; have e14 := zQ hV 14; obtain ⟨q0, q1⟩ := hS.1.two; go_simp; exact zO hK
       refine zS (fun w' hS hV K hK => ?_) ?_
       · have e15 := zQ hV 15; obtain ⟨q0, q1⟩ := hS.1.two; go_simp; exact zO hK
       refine zS (fun w' hS hV K hK => ?_) ?_
       · have e16 := zQ hV 16; obtain ⟨q0, q1⟩ := hS.1.two; go_simp; exact zO hK
       refine zS (fun w' hS hV K hK => ?_) ?_
       · have e16 := zQ hV 16; have e17 := zQ hV 17; obtain ⟨q0, q1⟩ := hS.1.two; go_simp; exact zO hK
       refine zS (fun w' hS hV K hK => ?_) ?_
       · have e16 := zQ hV 16; have e18 := zQ hV 18; obtain ⟨q0, q1⟩ := hS.1.two; go_simp; exact zO hK
       refine zS (fun w' hS hV K hK => ?_) ?_
       · have e16 := zQ hV 16; have e19 := zQ hV 19; obtain ⟨q0, q1⟩ := hS.1.two; go_simp; exact zO hK
       refine zS (fun w' hS hV K hK => ?_) ?_
       · have e16 := zQ hV 16; have e20 := zQ hV 20; obtain ⟨q0, q1⟩ := hS.1.two; go_simp; exact zO hK
       refine zS (fun w' hS hV K hK => ?_) ?_
       · have e21 := zQ hV 21; obtain ⟨q0, q1⟩ := hS.1.two; go_simp; exact zO hK
       refine fun w' hS hV => ?_
       have e0 := zT hV 0
       have e1 := zT hV 1
       have e2 := zT hV 2
       have e3 := zT hV 3
       have e4 := zT hV 4
       have e5 := zT hV 5
       have e6 := zT hV 6
       have e7 := zT hV 7
       have e8 := zT hV 8
       have e9 := zT hV 9
       have e10 := zT hV 10
       have e11 := zT hV 11
       have e12 := zT hV 12
       have e13 := zT hV 13
       have e14 := zT hV 14
       have e15 := zT hV 15
       have e16 := zT hV 16
       have e17 := zT hV 17
       have e18 := zT hV 18
       have e19 := zT hV 19
       have e20 := zT hV 20
       have e21 := zT hV 21
       have e22 := zT hV 22
       simp only [e0, e1, e2, e3, e4, e5, e6, e7, e8, e9, e10, e11, e12, e13, e14, e15, e16, e17, e18, e19, e20, e21, e22]
       clear e0 e1 e2 e3 e4 e5 e6 e7 e8 e9 e10 e11 e12 e13 e14 e15 e16 e17 e18 e19 e20 e21 e22
       refine wpAny_done (by kernel_rfl) ?_ _
       go_wp2
       go_ret
       exact ⟨ret_bool (by unfold isDb; rw [Hx.out]; simp [H1.out, H3.out]), hS.2⟩
     · have H3 := Lib.hid h3
       clear h3
       cases h4 : st.contains 0
       · have H4 := Lib.hid h4
         clear h4
         go_enter Tryz.func78, Tryz.ntmps78
         go_wp2
         refine wp_obs 23 [[],[0],[0,1],[0,1,2],[0,1,2,3],[0,1,2,3,4],[0,1,2,3,4,5],[0,1,2,3,4,5,6],[0,1,2,3,4,5,6,7],[0,1,2,3,4,5,6,7,8],[0,1,2,3,4,5,6,7,8,9],[0,1,2,3,4,5,6,7,8,9,10],[0,1,2,3,4,5,6,7,8,9],[0,1,2,3,4,5,6,7,8,9,12],[0,1,2,3,4,5,6,7,8,9,10,11,12,13],[0,1,2,3,4,5,6,7,8,9,10,11,12,13,14],[0,1,2,3,4,5,6,7,8,9,10,11,12,13,14,15],[0,1,2,3,4,5,6,7,8,9,10,11,12,13,14,15,16],[0,1,2,3,4,5,6,7,8,9,10,11,12,13,14,15,16,17],[0,1,2,3,4,5,6,7,8,9,10,11,12,13,14,15,16,17,18],[0,1,2,3,4,5,6,7,8,9,10,11,12,13,14,15,16,17,18,19],[0,1,2,3,4,5,6,7,8,9,10,11,12,13,14,15,16,17,18,19,20],[0,1,2,3,4,5,6,7,8,9,10,11,12,13,14,15,16,17,18,19,20,21]] [VIs (.pointer (some ⟨w.heap.size, 0, none⟩)), VIs (.int .i64 (p)), VIs (.bool true), VIs (.bool true), VIs (.pointer (some ⟨w.heap.size, 1, none⟩)), VIs (.slice A k c), VIs (.int .i64 (k)), VIs (.bool true), VIs (.bool true), VIs (.bool true), VIs (.agg #[.int .i64 p, .slice A k c]), VIs (.int .i64 (p)), VIs (.pointer (some ⟨w.heap.size, 1, none⟩)), VIs (.slice A k c), VIs (.bool true), VIs (.bool true), VIs (.bool true), VIs (.pointer (some ⟨w.heap.size, 1, none⟩)), VIs (.slice A k c), VIs (.bool false), VIs (.bool true), VIs (.bool true), VIs (.bool true)] (fun w' => Blk w' w.heap.size 26 #[.int .i64 p, .slice A k c] ∧ Below w.heap.size w w') (by kernel_rfl) (by kernel_rfl) (fun _ _ h hb => ⟨h.1.below hb h.1.lt, h.2.trans (hb.mono h.2.size)⟩) (⟨k0.drew, hB0.drew⟩) (fun x => ?_)
         refine zS (fun w' hS hV K hK => ?_) ?_
         · obtain ⟨q0, q1⟩ := hS.1.two; go_simp; exact zO hK
         refine zS (fun w' hS hV K hK => ?_) ?_
         · have e0 := zQ hV 0; obtain ⟨q0, q1⟩ := hS.1.two; go_simp; exact zO hK
         refine zS (fun w' hS hV K hK => ?_) ?_
         · have e1 := zQ hV 1; obtain ⟨q0, q1⟩ := hS.1.two; go_simp; refine (IsPrime_b _ _ H1.out).mono ?_; rintro e v1 ⟨rfl, rfl⟩; exact zO hK
         refine zS (fun w' hS hV K hK => ?_) ?_
         · have e2 := zQ hV 2; obtain ⟨q0, q1⟩ := hS.1.two; go_simp; exact zO hK
         refine zS (fun w' hS hV K hK => ?_) ?_
         · have e3 := zQ hV 3; obtain ⟨q0, q1⟩ := hS.1.two; go_simp; exact zO hK
         refine zS (fun w' hS hV K hK => ?_) ?_
         · have e3 := zQ hV 3; have e4 := zQ hV 4; obtain ⟨q0, q1⟩ := hS.1.two; go_simp; exact zO hK
         refine zS (fun w' hS hV K hK => ?_) ?_
         · have e3 := zQ hV 3; have e5 := zQ hV 5; obtain ⟨q0, q1⟩ := hS.1.two; go_simp; exact zO hK
         refine zS (fun w' hS hV K hK => ?_) ?_
         · have e3 := zQ hV 3; have e6 := zQ hV 6; obtain ⟨q0, q1⟩ := hS.1.two; go_simp; exact zO hK
         refine zS (fun w' hS hV K hK => ?_) ?_
         · have e3 := zQ hV 3; have e7 := zQ hV 7; obtain ⟨q0, q1⟩ := hS.1.two; go_simp; exact zO hK
         refine zS (fun w' hS hV K hK => ?_) ?_
         · have e8 := zQ hV 8; obtain ⟨q0, q1⟩ := hS.1.two; go_simp; exact zO hK
         refine zS (fun w' hS hV K hK => ?_) ?_
         · have e9 := zQ hV 9; obtain ⟨q0, q1⟩ := hS.1.two; go_simp; exact zO hK
         refine zS (fun w' hS hV K hK => ?_) ?_
         · have e9 := zQ hV 9; have e10 := zQ hV 10; obtain ⟨q0, q1⟩ := hS.1.two; go_simp; refine (dfield_any p A k c w').mono ?_; rintro e v1 ⟨rfl, hb⟩; exact hK.out _ _ _ rfl rfl rfl hb
         refine zS (fun w' hS hV K hK => ?_) ?_
         · have e9 := zQ hV 9; obtain ⟨q0, q1⟩ := hS.1.two; go_simp; exact zO hK
         refine zS (fun w' hS hV K hK => ?_) ?_
         · have e9 := zQ hV 9; have e12 := zQ hV 12; obtain ⟨q0, q1⟩ := hS.1.two; go_simp; exact zO hK
         refine zS (fun w' hS hV K hK => ?_) ?_
         · have e9 := zQ hV 9; have e11 := zQ hV 11; have e13 := zQ hV 13; obtain ⟨q0, q1⟩ := hS.1.two; go_simp; refine (is_b p A k c st w' hp0 (by omega) (by omega) (ha.below hS.2) H3.out).mono ?_; rintro e v1 ⟨rfl, rfl⟩; exact zO hK
         refine zS (fun w' hS hV K hK => ?_) ?_
         · have e9 := zQ hV 9; have e14 := zQ hV 14; obtain ⟨q0, q1⟩ := hS.1.two; go_simp; exact zO hK
         refine zS (fun w' hS hV K hK => ?_) ?_
         · have e15 := zQ hV 15; obtain ⟨q0, q1⟩ := hS.1.two; go_simp; exact zO hK
         refine zS (fun w' hS hV K hK => ?_) ?_
         · have e16 := zQ hV 16; obtain ⟨q0, q1⟩ := hS.1.two; go_simp; exact zO hK
         refine zS (fun w' hS hV K hK => ?_) ?_
         · have e16 := zQ hV 16; have e17 := zQ hV 17; obtain ⟨q0, q1⟩ := hS.1.two; go_simp; exact zO hK
         refine zS (fun w' hS hV K hK => ?_) ?_
         · have e16 := zQ hV 16; have e18 := zQ hV 18; obtain ⟨q0, q1⟩ := hS.1.two; go_simp; refine (Contains_b A k c st 0 w' (by omega) (ha.below hS.2) H4.out).mono ?_; rintro e v1 ⟨rfl, rfl⟩; exact zO hK
         refine zS (fun w' hS hV K hK => ?_) ?_
         · have e16 := zQ hV 16; have e19 := zQ hV 19; obtain ⟨q0, q1⟩ := hS.1.two; go_simp; exact zO hK
         refine zS (fun w' hS hV K hK => ?_) ?_
         · have e16 := zQ hV 16; have e20 := zQ hV 20; obtain ⟨q0, q1⟩ := hS.1.two; go_simp; exact zO hK
         refine zS (fun w' hS hV K hK => ?_) ?_
         · have e21 := zQ hV 21; obtain ⟨q0, q1⟩ := hS.1.two; go_simp; exact zO hK
         refine fun w' hS hV => ?_
         have e0 := zT hV 0
         have e1 := zT hV 1
         have e2 := zT hV 2
         have e3 := zT hV 3
         have e4 := zT hV 4
         have e5 := zT hV 5
         have e6 := zT hV 6
         have e7 := zT hV 7
         have e8 := zT hV 8
         have e9 := zT hV 9
         have e10 := zT hV 10
         have e11 := zT hV 11
         have e12 := zT hV 12
         have e13 := zT hV 13
         have e14 := zT hV 14
         have e15 := zT hV 15
         have e16 := zT hV 16
         have e17 := zT hV 17
         have e18 := zT hV 18
         have e19 := zT hV 19
         have e20 := zT hV 20
         have e21 := zT hV 21
         have e22 := zT hV 22
         simp only [e0, e1, e2, e3, e4, e5, e6, e7, e8, e9, e10, e11, e12, e13, e14, e15, e16, e17, e18, e19, e20, e21, e22]
         clear e0 e1 e2 e3 e4 e5 e6 e7 e8 e9 e10 e11 e12 e13 e14 e15 e16 e17 e18 e19 e20 e21 e22
         refine wpAny_done (by kernel_rfl) ?_ _
         go_wp2
         go_ret
         exact ⟨ret_bool (by unfold isDb; rw [Hx.out]; rw [H1.out, H3.out, H4.out]; simp [h2]), hS.2⟩
       · have H4 := Lib.hid h4
         clear h4
         go_enter Tryz.func78, Tryz.ntmps78
         go_wp2
         refine wp_obs 23 [[],[0],[0,1],[0,1,2],[0,1,2,3],[0,1,2,3,4],[0,1,2,3,4,5],[0,1,2,3,4,5,6],[0,1,2,3,4,5,6,7],[0,1,2,3,4,5,6,7,8],[0,1,2,3,4,5,6,7,8,9],[0,1,2,3,4,5,6,7,8,9,10],[0,1,2,3,4,5,6,7,8,9],[0,1,2,3,4,5,6,7,8,9,12],[0,1,2,3,4,5,6,7,8,9,10,11,12,13],[0,1,2,3,4,5,6,7,8,9,10,11,12,13,14],[0,1,2,3,4,5,6,7,8,9,10,11,12,13,14,15],[0,1,2,3,4,5,6,7,8,9,10,11,12,13,14,15,16],[0,1,2,3,4,5,6,7,8,9,10,11,12,13,14,15,16,17],[0,1,2,3,4,5,6,7,8,9,10,11,12,13,14,15,16,17,18],[0,1,2,3,4,5,6,7,8,9,10,11,12,13,14,15,16,17,18,19],[0,1,2,3,4,5,6,7,8,9,10,11,12,13,14,15,16,17,18,19,20],[0,1,2,3,4,5,6,7,8,9,10,11,12,13,14,15,16,17,18,19,20,21]] [VIs (.pointer (some ⟨w.heap.size, 0, none⟩)), VIs (.int .i64 (p)), VIs (.bool true), VIs (.bool true), VIs (.pointer (some ⟨w.heap.size, 1, none⟩)), VIs (.slice A k c), VIs (.int .i64 (k)), VIs (.bool true), VIs (.bool true), VIs (.bool true), VIs (.agg #[.int .i64 p, .slice A k c]), VIs (.int .i64 (p)), VIs (.pointer (some ⟨w.heap.size, 1, none⟩)), VIs (.slice A k c), VIs (.bool true), VIs (.bool true), VIs (.bool true), VIs (.pointer (some ⟨w.heap.size, 1, none⟩)), VIs (.slice A k c), VIs (.bool true), VIs (.bool false), VIs (.bool false), VIs (.bool false)] (fun w' => Blk w' w.heap.size 26 #[.int .i64 p, .slice A k c] ∧ Below w.heap.size w w') (by kernel_rfl) (by kernel_rfl) (fun _ _ h hb => ⟨h.1.below hb h.1.lt, h.2.trans (hb.mono h.2.size)⟩) (⟨k0.drew, hB0.drew⟩) (fun x => ?_)
         refine zS (fun w' hS hV K hK => ?_) ?_
         · obtain ⟨q0, q1⟩ := hS.1.two; go_simp; exact zO hK
         refine zS (fun w' hS hV K hK => ?_) ?_
         · have e0 := zQ hV 0; obtain ⟨q0, q1⟩ := hS.1.two; go_simp; exact zO hK
         refine zS (fun w' hS hV K hK => ?_) ?_
         · have e1 := zQ hV 1; obtain ⟨q0, q1⟩ := hS.1.two; go_simp; refine (IsPrime_b _ _ H1.out).mono ?_; rintro e v1 ⟨rfl, rfl⟩; exact zO hK
         refine zS (fun w' hS hV K hK => ?_) ?_
         · have e2 := zQ hV 2; obtain ⟨q0, q1⟩ := hS.1.two; go_simp; exact zO hK
         refine zS (fun w' hS hV K hK => ?_) ?_
         · have e3 := zQ hV 3; obtain ⟨q0, q1⟩ := hS.1.two; go_simp; exact zO hK
         refine zS (fun w' hS hV K hK => ?_) ?_
         · have e3 := zQ hV 3; have e4 := zQ hV 4; obtain ⟨q0, q1⟩ := hS.1.two; go_simp; exact zO hK
         refine zS (fun w' hS hV K hK => ?_) ?_
         · have e3 := zQ hV 3; have e5 := zQ hV 5; obtain ⟨q0, q1⟩ := hS.1.two; go_simp; exact zO hK
         refine zS (fun w' hS hV K hK => ?_) ?_
         · have e3 := zQ hV 3; have e6 := zQ hV 6; obtain ⟨q0, q1⟩ := hS.1.two; go_simp; exact zO hK
         refine zS (fun w' hS hV K hK => ?_) ?_
         · have e3 := zQ hV 3; have e7 := zQ hV 7; obtain ⟨q0, q1⟩ := hS.1.two; go_simp; exact zO hK
         refine zS (fun w' hS hV K hK => ?_) ?_
         · have e8 := zQ hV 8; obtain ⟨q0, q1⟩ := hS.1.two; go_simp; exact zO hK
         refine zS (fun w' hS hV K hK => ?_) ?_
         · have e9 := zQ hV 9; obtain ⟨q0, q1⟩ := hS.1.two; go_simp; exact zO hK
         refine zS (fun w' hS hV K hK => ?_) ?_
         · have e9 := zQ hV 9; have e10 := zQ hV 10; obtain ⟨q0, q1⟩ := hS.1.two; go_simp; refine (dfield_any p A k c w').mono ?_; rintro e v1 ⟨rfl, hb⟩; exact hK.out _ _ _ rfl rfl rfl hb
         refine zS (fun w' hS hV K hK => ?_) ?_
         · have e9 := zQ hV 9; obtain ⟨q0, q1⟩ := hS.1.two; go_simp; exact zO hK
         refine zS (fun w' hS hV K hK => ?_) ?_
         · have e9 := zQ hV 9; have e12 := zQ hV 12; obtain ⟨q0, q1⟩ := hS.1.two; go_simp; exact zO hK
         refine zS (fun w' hS hV K hK => ?_) ?_
         · have e9 := zQ hV 9; have e11 := zQ hV 11; have e13 := zQ hV 13; obtain ⟨q0, q1⟩ := hS.1.two; go_simp; refine (is_b p A k c st w' hp0 (by omega) (by omega) (ha.below hS.2) H3.out).mono ?_; rintro e v1 ⟨rfl, rfl⟩; exact zO hK
         refine zS (fun w' hS hV K hK => ?_) ?_
         · have e9 := zQ hV 9; have e14 := zQ hV 14; obtain ⟨q0, q1⟩ := hS.1.two; go_simp; exact zO hK
         refine zS (fun w' hS hV K hK => ?_) ?_
         · have e15 := zQ hV 15; obtain ⟨q0, q1⟩ := hS.1.two; go_simp; exact zO hK
         refine zS (fun w' hS hV K hK => ?_) ?_
         · have e16 := zQ hV 16; obtain ⟨q0, q1⟩ := hS.1.two; go_simp; exact zO hK
         refine zS (fun w' hS hV K hK => ?_) ?_
         · have e16 := zQ hV 16; have e17 := zQ hV 17; obtain ⟨q0, q1⟩ := hS.1.two; go_simp; exact zO hK
         refine zS (fun w' hS hV K hK => ?_) ?_
         · have e16 := zQ hV 16; have e18 := zQ hV 18; obtain ⟨q0, q1⟩ := hS.1.two; go_simp; refine (Contains_b A k c st 0 w' (by omega) (ha.below hS.2) H4.out).mono ?_; rintro e v1 ⟨rfl, rfl⟩; exact zO hK
         refine zS (fun w' hS hV K hK => ?_) ?_
         · have e16 := zQ hV 16; have e19 := zQ hV 19; obtain ⟨q0, q1⟩ := hS.1.two; go_simp; exact zO hK
         refine zS (fun w' hS hV K hK => ?_) ?_
         · have e16 := zQ hV 16; have e20 := zQ hV 20; obtain ⟨q0, q1⟩ := hS.1.two; go_simp; exact zO hK
         refine zS (fun w' hS hV K hK => ?_) ?_
         · have e21 := zQ hV 21; obtain ⟨q0, q1⟩ := hS.1.two; go_simp; exact zO hK
         refine fun w' hS hV => ?_
         have e0 := zT hV 0
         have e1 := zT hV 1
         have e2 := zT hV 2
         have e3 := zT hV 3
         have e4 := zT hV 4
         have e5 := zT hV 5
         have e6 := zT hV 6
         have e7 := zT hV 7
         have e8 := zT hV 8
         have e9 := zT hV 9
         have e10 := zT hV 10
         have e11 := zT hV 11
         have e12 := zT hV 12
         have e13 := zT hV 13
         have e14 := zT hV 14
         have e15 := zT hV 15
         have e16 := zT hV 16
         have e17 := zT hV 17
         have e18 := zT hV 18
         have e19 := zT hV 19
         have e20 := zT hV 20
         have e21 := zT hV 21
         have e22 := zT hV 22
         simp only [e0, e1, e2, e3, e4, e5, e6, e7, e8, e9, e10, e11, e12, e13, e14, e15, e16, e17, e18, e19, e20, e21, e22]
         clear e0 e1 e2 e3 e4 e5 e6 e7 e8 e9 e10 e11 e12 e13 e14 e15 e16 e17 e18 e19 e20 e21 e22
         refine wpAny_done (by kernel_rfl) ?_ _
         go_wp2
         go_ret
         exact ⟨ret_bool (by unfold isDb; rw [Hx.out]; rw [H1.out, H3.out, H4.out]; simp [h2]), hS.2⟩
   · have h2' : ((k : Int) ≤ 4) = False := eq_false (by omega)
     have h2d : decide ((k : Int) ≤ 4) = false := by rw [decide_eq_false_iff_not]; omega
     have h4k : (4 : Int) < k := by omega
     go_enter Tryz.func78, Tryz.ntmps78
     go_wp2
     refine wp_obs 23 [[],[0],[0,1],[0,1,2],[0,1,2,3],[0,1,2,3,4],[0,1,2,3,4,5],[0,1,2,3,4,5,6],[0,1,2,3,4,5,6,7],[0,1,2,3,4,5,6,7,8],[0,1,2,3,4,5,6,7,8,9],[0,1,2,3,4,5,6,7,8,9,10],[0,1,2,3,4,5,6,7,8,9],[0,1,2,3,4,5,6,7,8,9,12],[0,1,2,3,4,5,6,7,8,9,10,11,12,13],[0,1,2,3,4,5,6,7,8,9,10,11,12,13,14],[0,1,2,3,4,5,6,7,8,9,10,11,12,13,14,15],[0,1,2,3,4,5,6,7,8,9,10,11,12,13,14,15,16],[0,1,2,3,4,5,6,7,8,9,10,11,12,13,14,15,16,17],[0,1,2,3,4,5,6,7,8,9,10,11,12,13,14,15,16,17,18],[0,1,2,3,4,5,6,7,8,9,10,11,12,13,14,15,16,17,18,19],[0,1,2,3,4,5,6,7,8,9,10,11,12,13,14,15,16,17,18,19,20],[0,1,2,3,4,5,6,7,8,9,10,11,12,13,14,15,16,17,18,19,20,21]] [VIs (.pointer (some ⟨w.heap.size, 0, none⟩)), VIs (.int .i64 (p)), VIs (.bool true), VIs (.bool true), VIs (.pointer (some ⟨w.heap.size, 1, none⟩)), VIs (.slice A k c), VIs (.int .i64 (k)), VIs (.bool false), VIs (.bool false), VIs (.bool false), VIs undef, VIs undef, VIs undef, VIs undef, VIs undef, VIs (.bool false), VIs (.bool false), VIs undef, VIs undef, VIs undef, VIs undef, VIs (.bool false), VIs (.bool false)] (fun w' => Blk w' w.heap.size 26 #[.int .i64 p, .slice A k c] ∧ Below w.heap.size w w') (by kernel_rfl) (by kernel_rfl) (fun _ _ h hb => ⟨h.1.below hb h.1.lt, h.2.trans (hb.mono h.2.size)⟩) (⟨k0.drew, hB0.drew⟩) (fun x => ?_)
     refine zS (fun w' hS hV K hK => ?_) ?_
     · obtain ⟨q0, q1⟩ := hS.1.two; go_simp; exact zO hK
     refine zS (fun w' hS hV K hK => ?_) ?_
     · have e0 := zQ hV 0; obtain ⟨q0, q1⟩ := hS.1.two; go_simp; exact zO hK
     refine zS (fun w' hS hV K hK => ?_) ?_
     · have e1 := zQ hV 1; obtain ⟨q0, q1⟩ := hS.1.two; go_simp; refine (IsPrime_b _ _ H1.out).mono ?_; rintro e v1 ⟨rfl, rfl⟩; exact zO hK
     refine zS (fun w' hS hV K hK => ?_) ?_
     · have e2 := zQ hV 2; obtain ⟨q0, q1⟩ := hS.1.two; go_simp; exact zO hK
     refine zS (fun w' hS hV K hK => ?_) ?_
     · have e3 := zQ hV 3; obtain ⟨q0, q1⟩ := hS.1.two; go_simp; exact zO hK
     refine zS (fun w' hS hV K hK => ?_) ?_
     · have e3 := zQ hV 3; have e4 := zQ hV 4; obtain ⟨q0, q1⟩ := hS.1.two; go_simp; exact zO hK
     refine zS (fun w' hS hV K hK => ?_) ?_
     · have e3 := zQ hV 3; have e5 := zQ hV 5; obtain ⟨q0, q1⟩ := hS.1.two; go_simp; exact zO hK
     refine zS (fun w' hS hV K hK => ?_) ?_
     · have e3 := zQ hV 3; have e6 := zQ hV 6; obtain ⟨q0, q1⟩ := hS.1.two; go_simp; exact zO hK
     refine zS (fun w' hS hV K hK => ?_) ?_
     · have e3 := zQ hV 3; have e7 := zQ hV 7; obtain ⟨q0, q1⟩ := hS.1.two; go_simp; exact zO hK
     refine zS (fun w' hS hV K hK => ?_) ?_
     · have e8 := zQ hV 8; obtain ⟨q0, q1⟩ := hS.1.two; go_simp; exact zO hK
     refine zS (fun w' hS hV K hK => ?_) ?_
     · have e9 := zQ hV 9; obtain ⟨q0, q1⟩ := hS.1.two; go_simp; exact zO hK
     refine zS (fun w' hS hV K hK => ?_) ?_
     · have e9 := zQ hV 9; have e10 := zQ hV 10; obtain ⟨q0, q1⟩ := hS.1.two; go_simp; exact zO hK
     refine zS (fun w' hS hV K hK => ?_) ?_
     · have e9 := zQ hV 9; obtain ⟨q0, q1⟩ := hS.1.two; go_simp; exact zO hK
     refine zS (fun w' hS hV K hK => ?_) ?_
     · have e9 := zQ hV 9; have e12 := zQ hV 12; obtain ⟨q0, q1⟩ := hS.1.two; go_simp; exact zO hK
     refine zS (fun w' hS hV K hK => ?_) ?_
     · have e9 := zQ hV 9; have e11 := zQ hV 11; have e13 := zQ hV 13; obtain ⟨q0, q1⟩ := hS.1.two; go_simp; exact zO hK
     refine zS (fun w' hS hV K hK => ?_) ?_
     · have e9 := zQ hV 9; have e14 := zQ hV 14; obtain ⟨q0, q1⟩ := hS.1.two; go_simp; exact zO hK
     refine zS (fun w' hS hV K hK => ?_) ?_
     · have e15 := zQ hV 15; obtain ⟨q0, q1⟩ := hS.1.two; go_simp; exact zO hK
     refine zS (fun w' hS hV K hK => ?_) ?_
     · have e16 := zQ hV 16; obtain ⟨q0, q1⟩ := hS.1.two; go_simp; exact zO hK
     refine zS (fun w' hS hV K hK => ?_) ?_
     · have e16 := zQ hV 16; have e17 := zQ hV 17; obtain ⟨q0, q1⟩ := hS.1.two; go_simp; exact zO hK
     refine zS (fun w' hS hV K hK => ?_) ?_
     · have e16 := zQ hV 16; have e18 := zQ hV 18; obtain ⟨q0, q1⟩ := hS.1.two; go_simp; exact zO hK
     refine zS (fun w' hS hV K hK => ?_) ?_
     · have e16 := zQ hV 16; have e19 := zQ hV 19; obtain ⟨q0, q1⟩ := hS.1.two; go_simp; exact zO hK
     refine zS (fun w' hS hV K hK => ?_) ?_
     · have e16 := zQ hV 16; have e20 := zQ hV 20; obtain ⟨q0, q1⟩ := hS.1.two; go_simp; exact zO hK
     refine zS (fun w' hS hV K hK => ?_) ?_
     · have e21 := zQ hV 21; obtain ⟨q0, q1⟩ := hS.1.two; go_simp; exact zO hK
     refine fun w' hS hV => ?_
     have e0 := zT hV 0
     have e1 := zT hV 1
     have e2 := zT hV 2
     have e3 := zT hV 3
     have e4 := zT hV 4
     have e5 := zT hV 5
     have e6 := zT hV 6
     have e7 := zT hV 7
     have e8 := zT hV 8
     have e9 := zT hV 9
     have e10 := zT hV 10
     have e11 := zT hV 11
     have e12 := zT hV 12
     have e13 := zT hV 13
     have e14 := zT hV 14
     have e15 := zT hV 15
     have e16 := zT hV 16
     have e17 := zT hV 17
     have e18 := zT hV 18
     have e19 := zT hV 19
     have e20 := zT hV 20
     have e21 := zT hV 21
     have e22 := zT hV 22
     simp only [e0, e1, e2, e3, e4, e5, e6, e7, e8, e9, e10, e11, e12, e13, e14, e15, e16, e17, e18, e19, e20, e21, e22]
     clear e0 e1 e2 e3 e4 e5 e6 e7 e8 e9 e10 e11 e12 e13 e14 e15 e16 e17 e18 e19 e20 e21 e22
     refine wpAny_done (by kernel_rfl) ?_ _
     go_wp2
     go_ret
     exact ⟨ret_bool (by unfold isDb; rw [Hx.out]; simp [H1.out, h2]), hS.2⟩
/-- Is it an element of a doubling? -/
def isEl (p : Int) (k : Nat) (ys : List Int) : Bool := ((ys.length : Nat) : Int) == ((pw k : Nat) : Int) && nums p ys
/-- The code for a doubling and elements. -/
def codeD (p : Int) (st : List Int) (yss : List (List Int)) : Int := if isDb p st then (if yss.any fun ys => !(isEl p st.length ys) then 2 else 0) else 1
set_option maxHeartbeats 800000 in
set_option maxRecDepth 8000 in
theorem notEl (p : Int) (k : Nat) (g : Nat) (A : Option Addr) (c : Nat) (w : World) (hk4 : k ≤ 4) (hp0 : 0 < p) (hp1 : p ≤ 13) (hk : Blk w g 26 #[.int .i64 p, .slice A k c]) :
    Tells 142 #[.pointer (some ⟨g, 0, none⟩)] w (fun ys => !(isEl p k ys)) (fun ys => ys.length ≤ 1048576) := by
 intro w' D m d ys hb hr hm
 have hyl : ys.length = m := by have := hr.1; rwa [ints_length] at this
 rw [hyl] at hm
 have k0 := hk.below hb hk.lt
 obtain ⟨q0, q1⟩ := k0.two
 have hmu : isEl p k ys = ((((m : Nat) : Int) == ((pw k : Nat) : Int)) && nums p ys) := by unfold isEl; rw [hyl]
 have Hmu := Lib.hid hmu
 clear hyl hmu
 simp only [List.append_toArray, List.cons_append, List.nil_append]
 cases h2 : (((m : Nat) : Int) == ((pw k : Nat) : Int))
 all_goals
  have H2 := Lib.hid h2
  have h3 : (((m : Nat) : Int) != ((pw k : Nat) : Int)) = !(((m : Nat) : Int) == ((pw k : Nat) : Int)) := rfl
  rw [h2] at h3
  go_enter Tryz.func142, Tryz.ntmps142
  go_wp2_with fail
  refine (dsize_any p A k c _ hk4).mono ?_
  rintro e w1 ⟨rfl, hb1⟩
  have k1 := k0.below hb1 k0.lt
  obtain ⟨q0, q1⟩ := k1.two
  clear k0
  go_wp2_with fail
 · go_ret
   exact ⟨ret_bool (by rw [Hmu.out, H2.out]; rfl), hb1⟩
 · refine (dfield_any p A k c _).mono ?_
   rintro e w2 ⟨rfl, hb2⟩
   have hB2 := hb1.trans (hb2.mono hb1.size)
   obtain ⟨b, hb'⟩ : ∃ b, b = nums p ys := ⟨_, rfl⟩
   have HB := Lib.hid hb'
   clear hb'
   go_wp2_with fail
   refine (is_b _ _ _ _ _ _ hp0 (by omega) (by omega) (hr.below hB2) HB.out.symm).mono ?_
   rintro e w3 ⟨rfl, rfl⟩
   go_wp2
   go_ret
   exact ⟨ret_bool (by rw [Hmu.out, H2.out, HB.out]; rfl), hB2⟩
set_option maxHeartbeats 1000000 in
set_option maxRecDepth 8000 in
theorem checkElements_any (p : Int) (A B : Option Addr) (k c m d : Nat) (st : List Int) (yss : List (List Int)) (w : World) (hk6 : k ≤ 65536) (hm : m ≤ 1048576) (ha : Rd w A k (ints st)) (hb : RdII w B m yss) (hys : ∀ ys ∈ yss, ys.length ≤ 1048576) :
    Calls Tryz.prog 96 #[.agg #[.int .i64 p, .slice A k c], .slice B m d] w fun e w' => e = .returned (.int .i64 (codeD p st yss)) ∧ Below w.heap.size w w' := by
 have hxl : st.length = k := ha.lenI
 have hB : Below w.heap.size w (w.alloc (.cells #[.int .i64 p, .slice A k c] 26)) := zG.alloc (Nat.le_refl _) _
 have k0 : Blk (w.alloc (.cells #[.int .i64 p, .slice A k c] 26)) w.heap.size 26 #[.int .i64 p, .slice A k c] := Blk.new _ _ _
 have hmf : ∀ (fn : Fn) (first cap : Array Value) (w : World), (Instr.makeFunc fn first cap).run Tryz.prog w = .ok (.func fn first cap) w := fun _ _ _ _ => rfl
 have hD := IsDoubling_any p A k c st (w.alloc (.cells #[.int .i64 p, .slice A k c] 26)) hk6 (ha.below hB)
 cases h1 : isDb p st
 · rw [h1] at hD
   have HD := Lib.hid hD
   have H1 := Lib.hid h1
   clear h1 hxl hD
   go_enter Tryz.func96, Tryz.ntmps96
   go_wp2_with fail
   refine HD.out.mono ?_
   rintro e w1 ⟨rfl, hb1⟩
   go_wp2
   go_ret
   exact ⟨ret_int (by unfold codeD; rw [H1.out]; rfl), hB.trans (hb1.mono (by simp))⟩
 rw [h1] at hD
 have HD := Lib.hid hD
 have hP : isP p = true ∧ k ≤ 4 := by
  unfold isDb at h1
  simp only [Bool.and_eq_true, decide_eq_true_eq] at h1
  exact ⟨h1.1.1.1, by have := h1.1.1.2; omega⟩
 obtain ⟨hp, hk4⟩ := hP
 obtain ⟨hp0, hp1⟩ := isP_pos hp
 have H1 := Lib.hid h1; have Hx := Lib.hid hxl; clear h1 hp hxl hD
 cases h2 : (yss.any fun ys => !(isEl p k ys))
 all_goals
  have H2 := Lib.hid h2; clear h2
  go_enter Tryz.func96, Tryz.ntmps96
  go_wp2_with fail
  refine HD.out.mono ?_
  rintro e w1 ⟨rfl, hb1⟩
  have hB1 := hB.trans (hb1.mono (by simp))
  have hT := notEl p k w.heap.size A c w1 hk4 hp0 hp1 (k0.below hb1 k0.lt)
  go_wp2_with fail
  refine (ContainsFunc_any _ _ _ _ _ _ _ _ _ (by omega) (hb.below hB1) hys hT (fun _ _ => rfl)).mono ?_
  rintro e w2 ⟨rfl, hb2⟩
  rw [H2.out]
  go_wp2
  go_ret
  exact ⟨ret_int (by unfold codeD; rw [H1.out, Hx.out, H2.out]; rfl), hB1.trans (hb2.mono hB1.size)⟩
theorem isEl_mk {p : Int} {k : Nat} {ys : List Int} (h : ys.length = pw k) (hn : NumsL p ys) : isEl p k ys = true := by
 unfold isEl nums
 rw [h, Bool.and_eq_true]
 exact ⟨by simp, List.all_eq_true.2 fun x hx => by have := hn x hx; simp [inR]; omega⟩
theorem codeD_mk {p : Int} {st : List Int} {yss : List (List Int)} (h : isDb p st = true) (hy : ∀ ys ∈ yss, ys.length = pw st.length ∧ NumsL p ys) : codeD p st yss = 0 := by
 unfold codeD
 rw [h, if_pos rfl, if_neg]
 intro hh
 obtain ⟨ys, h1, e⟩ := List.any_eq_true.1 hh
 rw [isEl_mk (hy ys h1).1 (hy ys h1).2] at e
 cases e
theorem isDb_facts {p : Int} {st : List Int} (h : isDb p st = true) : isP p = true ∧ st.length ≤ 4 ∧ NumsL p st := by
 unfold isDb at h
 simp only [Bool.and_eq_true, decide_eq_true_eq] at h
 exact ⟨h.1.1.1, h.1.1.2, nums_numsL h.1.2⟩
def cmtL (p : Int) (k : Nat) (st x y : List Int) : List Int := plusL p (dblL p k st x y) (dblL p k st y x) (-1)
def assL (p : Int) (k : Nat) (st x y z : List Int) : List Int := plusL p (dblL p k st (dblL p k st x y) z) (dblL p k st x (dblL p k st y z)) (-1)
def innL (p : Int) (k : Nat) (st x y z : List Int) : List Int := plusL p (cmtL p k st (cmtL p k st x y) z) (assL p k st x y z) (-3)
theorem cmtL_len (p : Int) (k : Nat) (st x y : List Int) : (cmtL p k st x y).length = pw k := (plusL_len _ _ _ _).trans (dblL_len p k st x y)
theorem innL_len (p : Int) (k : Nat) (st x y z : List Int) : (innL p k st x y z).length = pw k := (plusL_len _ _ _ _).trans (cmtL_len p k st _ z)
theorem cmtL_nums {p : Int} (hp : 0 < p) (k : Nat) (st x y : List Int) : NumsL p (cmtL p k st x y) := plusL_nums hp _ _ _
theorem assL_nums {p : Int} (hp : 0 < p) (k : Nat) (st x y z : List Int) : NumsL p (assL p k st x y z) := plusL_nums hp _ _ _
theorem innL_nums {p : Int} (hp : 0 < p) (k : Nat) (st x y z : List Int) : NumsL p (innL p k st x y z) := plusL_nums hp _ _ _
set_option maxHeartbeats 1600000 in
set_option maxRecDepth 8000 in
theorem dcommutator_any (p : Int) (hp : 2 ≤ p) (hp2 : p ≤ 13) (k : Nat) (hk : k ≤ 4) (A : Option Addr) (c : Nat) (st : List Int) (X : Option Addr) (cx : Nat) (xs : List Int) (Y : Option Addr) (cy : Nat) (ys : List Int) (w : World) (hc : k ≤ c) (ha : Rd w A k (ints st)) (hst : NumsL p st) (hx : Rd w X (pw k) (ints xs)) (hxn : NumsL p xs) (hcx : pw k ≤ cx) (hy : Rd w Y (pw k) (ints ys)) (hyn : NumsL p ys) (hcy : pw k ≤ cy) :
    Calls Tryz.prog 59 #[.agg #[.int .i64 p, .slice A k c], .slice X (pw k) cx, .slice Y (pw k) cy] w fun e w' => ∃ A' c', e = .returned (.slice A' (pw k) c') ∧ MkI w w' A' (pw k) c' (cmtL p k st xs ys) := by
 have hB0 : Below w.heap.size w (w.alloc (.cells #[.int .i64 p, .slice A k c] 26)) := zG.alloc (Nat.le_refl _) _
 have k0 : Blk (w.alloc (.cells #[.int .i64 p, .slice A k c] 26)) w.heap.size 26 #[.int .i64 p, .slice A k c] := Blk.new _ _ _
 have hpk : pw k ≤ 16 := pw_le hk
 go_enter Tryz.func59, Tryz.ntmps59
 go_wp2
 refine wp_obs 12 [[],[0],[],[],[],[2,3,4],[],[],[],[6,7,8],[0,1,2,3,4,5,6,7,8,9],[0,1,2,3,4,5,6,7,8,9,10]] [VIs (.agg #[.int .i64 p, .slice A k c]), VIs (.int .i64 (p)), VIs (.agg #[.int .i64 p, .slice A k c]), VIs (.slice X (pw k) cx), VIs (.slice Y (pw k) cy), VSl w (pw k) (dblL p k st xs ys), VIs (.agg #[.int .i64 p, .slice A k c]), VIs (.slice Y (pw k) cy), VIs (.slice X (pw k) cx), VSl w (pw k) (dblL p k st ys xs), VSl w (pw k) (cmtL p k st xs ys), VSl w (pw k) (cmtL p k st xs ys)] (fun w' => Blk w' w.heap.size 26 #[.int .i64 p, .slice A k c] ∧ Below w.heap.size w w') (by kernel_rfl) (by kernel_rfl) (fun _ _ h hb => ⟨h.1.below hb h.1.lt, h.2.trans (hb.mono h.2.size)⟩) (⟨k0.drew, hB0.drew⟩) (fun x => ?_)
 refine zS (fun w' hS hV K hK => ?_) ?_
 · obtain ⟨q0, q1⟩ := hS.1.two; go_simp; exact zO hK
 refine zS (fun w' hS hV K hK => ?_) ?_
 · have e0 := zQ hV 0; obtain ⟨q0, q1⟩ := hS.1.two; go_simp; refine (dfield_any p A k c w').mono ?_; rintro e v1 ⟨rfl, hb⟩; exact hK.out _ _ _ rfl rfl rfl hb
 refine zS (fun w' hS hV K hK => ?_) ?_
 · obtain ⟨q0, q1⟩ := hS.1.two; go_simp; exact zO hK
 refine zS (fun w' hS hV K hK => ?_) ?_
 · obtain ⟨q0, q1⟩ := hS.1.two; go_simp; exact zO hK
 refine zS (fun w' hS hV K hK => ?_) ?_
 · obtain ⟨q0, q1⟩ := hS.1.two; go_simp; exact zO hK
 refine zS (fun w' hS hV K hK => ?_) ?_
 · have e2 := zQ hV 2; have e3 := zQ hV 3; have e4 := zQ hV 4; obtain ⟨q0, q1⟩ := hS.1.two; go_simp; refine (dtimes_any p hp hp2 k hk A c st X cx xs Y cy ys w' hc hcx hcy (ha.below hS.2) hst (hx.below hS.2) hxn (hy.below hS.2) hyn).mono ?_; rintro e v1 ⟨A9, c9, rfl, hM⟩; exact hK.out _ _ _ rfl rfl ⟨_, _, rfl, hM.after hS.2⟩ hM.b
 refine zS (fun w' hS hV K hK => ?_) ?_
 · obtain ⟨q0, q1⟩ := hS.1.two; go_simp; exact zO hK
 refine zS (fun w' hS hV K hK => ?_) ?_
 · obtain ⟨q0, q1⟩ := hS.1.two; go_simp; exact zO hK
 refine zS (fun w' hS hV K hK => ?_) ?_
 · obtain ⟨q0, q1⟩ := hS.1.two; go_simp; exact zO hK
 refine zS (fun w' hS hV K hK => ?_) ?_
 · have e6 := zQ hV 6; have e7 := zQ hV 7; have e8 := zQ hV 8; obtain ⟨q0, q1⟩ := hS.1.two; go_simp; refine (dtimes_any p hp hp2 k hk A c st Y cy ys X cx xs w' hc hcy hcx (ha.below hS.2) hst (hy.below hS.2) hyn (hx.below hS.2) hxn).mono ?_; rintro e v1 ⟨A9, c9, rfl, hM⟩; exact hK.out _ _ _ rfl rfl ⟨_, _, rfl, hM.after hS.2⟩ hM.b
 refine zS (fun w' hS hV K hK => ?_) ?_
 · have e1 := zQ hV 1; obtain ⟨A5, c5, e5, h5⟩ := hV 5 (by decide); obtain ⟨A9, c9, e9, h9⟩ := hV 9 (by decide); obtain ⟨q0, q1⟩ := hS.1.two; go_simp; refine (plus_any p A5 (pw k) c5 A9 (pw k) c9 (-1) (dblL p k st xs ys) (dblL p k st ys xs) w' hp hp2 (by omega) (Nat.le_refl _) h5.rd (dblL_nums (by omega) _ _ _ _) h9.rd (dblL_nums (by omega) _ _ _ _) (by omega) (by omega)).mono ?_; rintro e v1 ⟨A9, c9, rfl, hM⟩; exact hK.out _ _ _ rfl rfl ⟨_, _, rfl, hM.after hS.2⟩ hM.b
 refine zS (fun w' hS hV K hK => ?_) ?_
 · obtain ⟨A5, c5, e5, h5⟩ := hV 5 (by decide); obtain ⟨A9, c9, e9, h9⟩ := hV 9 (by decide); obtain ⟨A10, c10, e10, h10⟩ := hV 10 (by decide); obtain ⟨q0, q1⟩ := hS.1.two; go_simp; exact hK.out _ _ _ rfl rfl ⟨_, _, rfl, h10⟩ zG
 refine fun w' hS hV => ?_
 have e0 := zT hV 0
 have e1 := zT hV 1
 have e2 := zT hV 2
 have e3 := zT hV 3
 have e4 := zT hV 4
 obtain ⟨A5, c5, e5, h5⟩ := hV 5 (by decide)
 have e6 := zT hV 6
 have e7 := zT hV 7
 have e8 := zT hV 8
 obtain ⟨A9, c9, e9, h9⟩ := hV 9 (by decide)
 obtain ⟨A10, c10, e10, h10⟩ := hV 10 (by decide)
 obtain ⟨A11, c11, e11, h11⟩ := hV 11 (by decide)
 simp only [e0, e1, e2, e3, e4, e5, e6, e7, e8, e9, e10, e11]
 clear e0 e1 e2 e3 e4 e5 e6 e7 e8 e9 e10 e11
 refine wpAny_done (by kernel_rfl) ?_ _
 go_wp2
 go_ret
 exact ⟨_, _, rfl, h11⟩
set_option maxHeartbeats 1600000 in
set_option maxRecDepth 8000 in
theorem dassociator_any (p : Int) (hp : 2 ≤ p) (hp2 : p ≤ 13) (k : Nat) (hk : k ≤ 4) (A : Option Addr) (c : Nat) (st : List Int) (X : Option Addr) (cx : Nat) (xs : List Int) (Y : Option Addr) (cy : Nat) (ys : List Int) (Z : Option Addr) (cz : Nat) (zs : List Int) (w : World) (hc : k ≤ c) (ha : Rd w A k (ints st)) (hst : NumsL p st) (hx : Rd w X (pw k) (ints xs)) (hxn : NumsL p xs) (hcx : pw k ≤ cx) (hy : Rd w Y (pw k) (ints ys)) (hyn : NumsL p ys) (hcy : pw k ≤ cy) (hz : Rd w Z (pw k) (ints zs)) (hzn : NumsL p zs) (hcz : pw k ≤ cz) :
    Calls Tryz.prog 60 #[.agg #[.int .i64 p, .slice A k c], .slice X (pw k) cx, .slice Y (pw k) cy, .slice Z (pw k) cz] w fun e w' => ∃ A' c', e = .returned (.slice A' (pw k) c') ∧ MkI w w' A' (pw k) c' (assL p k st xs ys zs) := by
 have hB0 : Below w.heap.size w (w.alloc (.cells #[.int .i64 p, .slice A k c] 26)) := zG.alloc (Nat.le_refl _) _
 have k0 : Blk (w.alloc (.cells #[.int .i64 p, .slice A k c] 26)) w.heap.size 26 #[.int .i64 p, .slice A k c] := Blk.new _ _ _
 have hpk : pw k ≤ 16 := pw_le hk
 go_enter Tryz.func60, Tryz.ntmps60
 go_wp2
 refine wp_obs 18 [[],[0],[],[],[],[],[3,4,5],[],[2,3,4,5,6,7],[],[],[],[],[],[11,12,13],[9,10,11,12,13,14],[0,1,2,3,4,5,6,7,8,9,10,11,12,13,14,15],[0,1,2,3,4,5,6,7,8,9,10,11,12,13,14,15,16]] [VIs (.agg #[.int .i64 p, .slice A k c]), VIs (.int .i64 (p)), VIs (.agg #[.int .i64 p, .slice A k c]), VIs (.agg #[.int .i64 p, .slice A k c]), VIs (.slice X (pw k) cx), VIs (.slice Y (pw k) cy), VSl w (pw k) (dblL p k st xs ys), VIs (.slice Z (pw k) cz), VSl w (pw k) (dblL p k st (dblL p k st xs ys) zs), VIs (.agg #[.int .i64 p, .slice A k c]), VIs (.slice X (pw k) cx), VIs (.agg #[.int .i64 p, .slice A k c]), VIs (.slice Y (pw k) cy), VIs (.slice Z (pw k) cz), VSl w (pw k) (dblL p k st ys zs), VSl w (pw k) (dblL p k st xs (dblL p k st ys zs)), VSl w (pw k) (assL p k st xs ys zs), VSl w (pw k) (assL p k st xs ys zs)] (fun w' => Blk w' w.heap.size 26 #[.int .i64 p, .slice A k c] ∧ Below w.heap.size w w') (by kernel_rfl) (by kernel_rfl) (fun _ _ h hb => ⟨h.1.below hb h.1.lt, h.2.trans (hb.mono h.2.size)⟩) (⟨k0.drew, hB0.drew⟩) (fun x => ?_)
 refine zS (fun w' hS hV K hK => ?_) ?_
 · obtain ⟨q0, q1⟩ := hS.1.two; go_simp; exact zO hK
 refine zS (fun w' hS hV K hK => ?_) ?_
 · have e0 := zQ hV 0; obtain ⟨q0, q1⟩ := hS.1.two; go_simp; refine (dfield_any p A k c w').mono ?_; rintro e v1 ⟨rfl, hb⟩; exact hK.out _ _ _ rfl rfl rfl hb
 refine zS (fun w' hS hV K hK => ?_) ?_
 · obtain ⟨q0, q1⟩ := hS.1.two; go_simp; exact zO hK
 refine zS (fun w' hS hV K hK => ?_) ?_
 · obtain ⟨q0, q1⟩ := hS.1.two; go_simp; exact zO hK
 refine zS (fun w' hS hV K hK => ?_) ?_
 · obtain ⟨q0, q1⟩ := hS.1.two; go_simp; exact zO hK
 refine zS (fun w' hS hV K hK => ?_) ?_
 · obtain ⟨q0, q1⟩ := hS.1.two; go_simp; exact zO hK
 refine zS (fun w' hS hV K hK => ?_) ?_
 · have e3 := zQ hV 3; have e4 := zQ hV 4; have e5 := zQ hV 5; obtain ⟨q0, q1⟩ := hS.1.two; go_simp; refine (dtimes_any p hp hp2 k hk A c st X cx xs Y cy ys w' hc hcx hcy (ha.below hS.2) hst (hx.below hS.2) hxn (hy.below hS.2) hyn).mono ?_; rintro e v1 ⟨A9, c9, rfl, hM⟩; exact hK.out _ _ _ rfl rfl ⟨_, _, rfl, hM.after hS.2⟩ hM.b
 refine zS (fun w' hS hV K hK => ?_) ?_
 · obtain ⟨q0, q1⟩ := hS.1.two; go_simp; exact zO hK
 refine zS (fun w' hS hV K hK => ?_) ?_
 · have e2 := zQ hV 2; obtain ⟨A6, c6, e6, h6⟩ := hV 6 (by decide); have e7 := zQ hV 7; obtain ⟨q0, q1⟩ := hS.1.two; go_simp; refine (dtimes_any p hp hp2 k hk A c st _ c6 (dblL p k st xs ys) Z cz zs w' hc h6.2.cap hcz (ha.below hS.2) hst h6.rd (dblL_nums (by omega) _ _ _ _) (hz.below hS.2) hzn).mono ?_; rintro e v1 ⟨A9, c9, rfl, hM⟩; exact hK.out _ _ _ rfl rfl ⟨_, _, rfl, hM.after hS.2⟩ hM.b
 refine zS (fun w' hS hV K hK => ?_) ?_
 · obtain ⟨q0, q1⟩ := hS.1.two; go_simp; exact zO hK
 refine zS (fun w' hS hV K hK => ?_) ?_
 · obtain ⟨q0, q1⟩ := hS.1.two; go_simp; exact zO hK
 refine zS (fun w' hS hV K hK => ?_) ?_
 · obtain ⟨q0, q1⟩ := hS.1.two; go_simp; exact zO hK
 refine zS (fun w' hS hV K hK => ?_) ?_
 · obtain ⟨q0, q1⟩ := hS.1.two; go_simp; exact zO hK
 refine zS (fun w' hS hV K hK => ?_) ?_
 · obtain ⟨q0, q1⟩ := hS.1.two; go_simp; exact zO hK
 refine zS (fun w' hS hV K hK => ?_) ?_
 · have e11 := zQ hV 11; have e12 := zQ hV 12; have e13 := zQ hV 13; obtain ⟨q0, q1⟩ := hS.1.two; go_simp; refine (dtimes_any p hp hp2 k hk A c st Y cy ys Z cz zs w' hc hcy hcz (ha.below hS.2) hst (hy.below hS.2) hyn (hz.below hS.2) hzn).mono ?_; rintro e v1 ⟨A9, c9, rfl, hM⟩; exact hK.out _ _ _ rfl rfl ⟨_, _, rfl, hM.after hS.2⟩ hM.b
 refine zS (fun w' hS hV K hK => ?_) ?_
 · have e9 := zQ hV 9; have e10 := zQ hV 10; obtain ⟨A14, c14, e14, h14⟩ := hV 14 (by decide); obtain ⟨q0, q1⟩ := hS.1.two; go_simp; refine (dtimes_any p hp hp2 k hk A c st X cx xs _ c14 (dblL p k st ys zs) w' hc hcx h14.2.cap (ha.below hS.2) hst (hx.below hS.2) hxn h14.rd (dblL_nums (by omega) _ _ _ _)).mono ?_; rintro e v1 ⟨A9, c9, rfl, hM⟩; exact hK.out _ _ _ rfl rfl ⟨_, _, rfl, hM.after hS.2⟩ hM.b
 refine zS (fun w' hS hV K hK => ?_) ?_
 · have e1 := zQ hV 1; obtain ⟨A6, c6, e6, h6⟩ := hV 6 (by decide); obtain ⟨A8, c8, e8, h8⟩ := hV 8 (by decide); obtain ⟨A14, c14, e14, h14⟩ := hV 14 (by decide); obtain ⟨A15, c15, e15, h15⟩ := hV 15 (by decide); obtain ⟨q0, q1⟩ := hS.1.two; go_simp; refine (plus_any p A8 (pw k) c8 A15 (pw k) c15 (-1) (dblL p k st (dblL p k st xs ys) zs) (dblL p k st xs (dblL p k st ys zs)) w' hp hp2 (by omega) (Nat.le_refl _) h8.rd (dblL_nums (by omega) _ _ _ _) h15.rd (dblL_nums (by omega) _ _ _ _) (by omega) (by omega)).mono ?_; rintro e v1 ⟨A9, c9, rfl, hM⟩; exact hK.out _ _ _ rfl rfl ⟨_, _, rfl, hM.after hS.2⟩ hM.b
 refine zS (fun w' hS hV K hK => ?_) ?_
 · obtain ⟨A6, c6, e6, h6⟩ := hV 6 (by decide); obtain ⟨A8, c8, e8, h8⟩ := hV 8 (by decide); obtain ⟨A14, c14, e14, h14⟩ := hV 14 (by decide); obtain ⟨A15, c15, e15, h15⟩ := hV 15 (by decide); obtain ⟨A16, c16, e16, h16⟩ := hV 16 (by decide); obtain ⟨q0, q1⟩ := hS.1.two; go_simp; exact hK.out _ _ _ rfl rfl ⟨_, _, rfl, h16⟩ zG
 refine fun w' hS hV => ?_
 have e0 := zT hV 0
 have e1 := zT hV 1
 have e2 := zT hV 2
 have e3 := zT hV 3
 have e4 := zT hV 4
 have e5 := zT hV 5
 obtain ⟨A6, c6, e6, h6⟩ := hV 6 (by decide)
 have e7 := zT hV 7
 obtain ⟨A8, c8, e8, h8⟩ := hV 8 (by decide)
 have e9 := zT hV 9
 have e10 := zT hV 10
 have e11 := zT hV 11
 have e12 := zT hV 12
 have e13 := zT hV 13
 obtain ⟨A14, c14, e14, h14⟩ := hV 14 (by decide)
 obtain ⟨A15, c15, e15, h15⟩ := hV 15 (by decide)
 obtain ⟨A16, c16, e16, h16⟩ := hV 16 (by decide)
 obtain ⟨A17, c17, e17, h17⟩ := hV 17 (by decide)
 simp only [e0, e1, e2, e3, e4, e5, e6, e7, e8, e9, e10, e11, e12, e13, e14, e15, e16, e17]
 clear e0 e1 e2 e3 e4 e5 e6 e7 e8 e9 e10 e11 e12 e13 e14 e15 e16 e17
 refine wpAny_done (by kernel_rfl) ?_ _
 go_wp2
 go_ret
 exact ⟨_, _, rfl, h17⟩
set_option maxHeartbeats 1600000 in
set_option maxRecDepth 8000 in
theorem innerAt_any (p : Int) (hp : 2 ≤ p) (hp2 : p ≤ 13) (k : Nat) (hk : k ≤ 4) (A : Option Addr) (c : Nat) (st : List Int) (X : Option Addr) (cx : Nat) (xs : List Int) (Y : Option Addr) (cy : Nat) (ys : List Int) (Z : Option Addr) (cz : Nat) (zs : List Int) (g1 g2 g3 : Nat) (w : World) (hc : k ≤ c) (ha : Rd w A k (ints st)) (hst : NumsL p st) (hx : Rd w X (pw k) (ints xs)) (hxn : NumsL p xs) (hcx : pw k ≤ cx) (hy : Rd w Y (pw k) (ints ys)) (hyn : NumsL p ys) (hcy : pw k ≤ cy) (hz : Rd w Z (pw k) (ints zs)) (hzn : NumsL p zs) (hcz : pw k ≤ cz) (k1 : Blk w g1 26 #[.int .i64 p, .slice A k c]) (k2 : Blk w g2 24 #[.slice X (pw k) cx]) (k3 : Blk w g3 24 #[.slice Y (pw k) cy]) :
    Calls Tryz.prog 57 #[.slice Z (pw k) cz, .pointer (some ⟨g1, 0, none⟩), .pointer (some ⟨g2, 0, none⟩), .pointer (some ⟨g3, 0, none⟩)] w fun e w' => ∃ A' c', e = .returned (.slice A' (pw k) c') ∧ MkI w w' A' (pw k) c' (innL p k st xs ys zs) := by
 have hpk : pw k ≤ 16 := pw_le hk
 go_enter Tryz.func57, Tryz.ntmps57
 go_wp2
 refine wp_obs 16 [[],[0],[],[],[],[],[3,4,5],[],[2,3,4,5,6,7],[],[],[],[],[9,10,11,12],[0,1,2,3,4,5,6,7,8,9,10,11,12,13],[0,1,2,3,4,5,6,7,8,9,10,11,12,13,14]] [VIs (.agg #[.int .i64 p, .slice A k c]), VIs (.int .i64 (p)), VIs (.agg #[.int .i64 p, .slice A k c]), VIs (.agg #[.int .i64 p, .slice A k c]), VIs (.slice X (pw k) cx), VIs (.slice Y (pw k) cy), VSl w (pw k) (cmtL p k st xs ys), VIs (.slice Z (pw k) cz), VSl w (pw k) (cmtL p k st (cmtL p k st xs ys) zs), VIs (.agg #[.int .i64 p, .slice A k c]), VIs (.slice X (pw k) cx), VIs (.slice Y (pw k) cy), VIs (.slice Z (pw k) cz), VSl w (pw k) (assL p k st xs ys zs), VSl w (pw k) (innL p k st xs ys zs), VSl w (pw k) (innL p k st xs ys zs)] (fun w' => Blk w' g1 26 #[.int .i64 p, .slice A k c] ∧ Blk w' g2 24 #[.slice X (pw k) cx] ∧ Blk w' g3 24 #[.slice Y (pw k) cy] ∧ Below w.heap.size w w') (by kernel_rfl) (by kernel_rfl) (fun _ _ h hb => ⟨h.1.below hb h.1.lt, h.2.1.below hb h.2.1.lt, h.2.2.1.below hb h.2.2.1.lt, h.2.2.2.trans (hb.mono h.2.2.2.size)⟩) (⟨k1.drew, k2.drew, k3.drew, zG.drew⟩) (fun x => ?_)
 refine zS (fun w' hS hV K hK => ?_) ?_
 · obtain ⟨q0, q1⟩ := hS.1.two; have q2 := hS.2.1.cell 0; have q3 := hS.2.2.1.cell 0; go_simp; exact zO hK
 refine zS (fun w' hS hV K hK => ?_) ?_
 · have e0 := zQ hV 0; obtain ⟨q0, q1⟩ := hS.1.two; have q2 := hS.2.1.cell 0; have q3 := hS.2.2.1.cell 0; go_simp; refine (dfield_any p A k c w').mono ?_; rintro e v1 ⟨rfl, hb⟩; exact hK.out _ _ _ rfl rfl rfl hb
 refine zS (fun w' hS hV K hK => ?_) ?_
 · obtain ⟨q0, q1⟩ := hS.1.two; have q2 := hS.2.1.cell 0; have q3 := hS.2.2.1.cell 0; go_simp; exact zO hK
 refine zS (fun w' hS hV K hK => ?_) ?_
 · obtain ⟨q0, q1⟩ := hS.1.two; have q2 := hS.2.1.cell 0; have q3 := hS.2.2.1.cell 0; go_simp; exact zO hK
 refine zS (fun w' hS hV K hK => ?_) ?_
 · obtain ⟨q0, q1⟩ := hS.1.two; have q2 := hS.2.1.cell 0; have q3 := hS.2.2.1.cell 0; go_simp; exact zO hK
 refine zS (fun w' hS hV K hK => ?_) ?_
 · obtain ⟨q0, q1⟩ := hS.1.two; have q2 := hS.2.1.cell 0; have q3 := hS.2.2.1.cell 0; go_simp; exact zO hK
 refine zS (fun w' hS hV K hK => ?_) ?_
 · have e3 := zQ hV 3; have e4 := zQ hV 4; have e5 := zQ hV 5; obtain ⟨q0, q1⟩ := hS.1.two; have q2 := hS.2.1.cell 0; have q3 := hS.2.2.1.cell 0; go_simp; refine (dcommutator_any p hp hp2 k hk A c st X cx xs Y cy ys w' hc (ha.below hS.2.2.2) hst (hx.below hS.2.2.2) hxn hcx (hy.below hS.2.2.2) hyn hcy).mono ?_; rintro e v1 ⟨A9, c9, rfl, hM⟩; exact hK.out _ _ _ rfl rfl ⟨_, _, rfl, hM.after hS.2.2.2⟩ hM.b
 refine zS (fun w' hS hV K hK => ?_) ?_
 · obtain ⟨q0, q1⟩ := hS.1.two; have q2 := hS.2.1.cell 0; have q3 := hS.2.2.1.cell 0; go_simp; exact zO hK
 refine zS (fun w' hS hV K hK => ?_) ?_
 · have e2 := zQ hV 2; obtain ⟨A6, c6, e6, h6⟩ := hV 6 (by decide); have e7 := zQ hV 7; obtain ⟨q0, q1⟩ := hS.1.two; have q2 := hS.2.1.cell 0; have q3 := hS.2.2.1.cell 0; go_simp; refine (dcommutator_any p hp hp2 k hk A c st _ c6 (cmtL p k st xs ys) Z cz zs w' hc (ha.below hS.2.2.2) hst h6.rd (cmtL_nums (by omega) _ _ _ _) h6.2.cap (hz.below hS.2.2.2) hzn hcz).mono ?_; rintro e v1 ⟨A9, c9, rfl, hM⟩; exact hK.out _ _ _ rfl rfl ⟨_, _, rfl, hM.after hS.2.2.2⟩ hM.b
 refine zS (fun w' hS hV K hK => ?_) ?_
 · obtain ⟨q0, q1⟩ := hS.1.two; have q2 := hS.2.1.cell 0; have q3 := hS.2.2.1.cell 0; go_simp; exact zO hK
 refine zS (fun w' hS hV K hK => ?_) ?_
 · obtain ⟨q0, q1⟩ := hS.1.two; have q2 := hS.2.1.cell 0; have q3 := hS.2.2.1.cell 0; go_simp; exact zO hK
 refine zS (fun w' hS hV K hK => ?_) ?_
 · obtain ⟨q0, q1⟩ := hS.1.two; have q2 := hS.2.1.cell 0; have q3 := hS.2.2.1.cell 0; go_simp; exact zO hK
 refine zS (fun w' hS hV K hK => ?_) ?_
 · obtain ⟨q0, q1⟩ := hS.1.two; have q2 := hS.2.1.cell 0; have q3 := hS.2.2.1.cell 0; go_simp; exact zO hK
 refine zS (fun w' hS hV K hK => ?_) ?_
 · have e9 := zQ hV 9; have e10 := zQ hV 10; have e11 := zQ hV 11; have e12 := zQ hV 12; obtain ⟨q0, q1⟩ := hS.1.two; have q2 := hS.2.1.cell 0; have q3 := hS.2.2.1.cell 0; go_simp; refine (dassociator_any p hp hp2 k hk A c st X cx xs Y cy ys Z cz zs w' hc (ha.below hS.2.2.2) hst (hx.below hS.2.2.2) hxn hcx (hy.below hS.2.2.2) hyn hcy (hz.below hS.2.2.2) hzn hcz).mono ?_; rintro e v1 ⟨A9, c9, rfl, hM⟩; exact hK.out _ _ _ rfl rfl ⟨_, _, rfl, hM.after hS.2.2.2⟩ hM.b
 refine zS (fun w' hS hV K hK => ?_) ?_
 · have e1 := zQ hV 1; obtain ⟨A6, c6, e6, h6⟩ := hV 6 (by decide); obtain ⟨A8, c8, e8, h8⟩ := hV 8 (by decide); obtain ⟨A13, c13, e13, h13⟩ := hV 13 (by decide); obtain ⟨q0, q1⟩ := hS.1.two; have q2 := hS.2.1.cell 0; have q3 := hS.2.2.1.cell 0; go_simp; refine (plus_any p A8 (pw k) c8 A13 (pw k) c13 (-3) (cmtL p k st (cmtL p k st xs ys) zs) (assL p k st xs ys zs) w' hp hp2 (by omega) (Nat.le_refl _) h8.rd (cmtL_nums (by omega) _ _ _ _) h13.rd (assL_nums (by omega) _ _ _ _ _) (by omega) (by omega)).mono ?_; rintro e v1 ⟨A9, c9, rfl, hM⟩; exact hK.out _ _ _ rfl rfl ⟨_, _, rfl, hM.after hS.2.2.2⟩ hM.b
 refine zS (fun w' hS hV K hK => ?_) ?_
 · obtain ⟨A6, c6, e6, h6⟩ := hV 6 (by decide); obtain ⟨A8, c8, e8, h8⟩ := hV 8 (by decide); obtain ⟨A13, c13, e13, h13⟩ := hV 13 (by decide); obtain ⟨A14, c14, e14, h14⟩ := hV 14 (by decide); obtain ⟨q0, q1⟩ := hS.1.two; have q2 := hS.2.1.cell 0; have q3 := hS.2.2.1.cell 0; go_simp; exact hK.out _ _ _ rfl rfl ⟨_, _, rfl, h14⟩ zG
 refine fun w' hS hV => ?_
 have e0 := zT hV 0
 have e1 := zT hV 1
 have e2 := zT hV 2
 have e3 := zT hV 3
 have e4 := zT hV 4
 have e5 := zT hV 5
 obtain ⟨A6, c6, e6, h6⟩ := hV 6 (by decide)
 have e7 := zT hV 7
 obtain ⟨A8, c8, e8, h8⟩ := hV 8 (by decide)
 have e9 := zT hV 9
 have e10 := zT hV 10
 have e11 := zT hV 11
 have e12 := zT hV 12
 obtain ⟨A13, c13, e13, h13⟩ := hV 13 (by decide)
 obtain ⟨A14, c14, e14, h14⟩ := hV 14 (by decide)
 obtain ⟨A15, c15, e15, h15⟩ := hV 15 (by decide)
 simp only [e0, e1, e2, e3, e4, e5, e6, e7, e8, e9, e10, e11, e12, e13, e14, e15]
 clear e0 e1 e2 e3 e4 e5 e6 e7 e8 e9 e10 e11 e12 e13 e14 e15
 refine wpAny_done (by kernel_rfl) ?_ _
 go_wp2
 go_ret
 exact ⟨_, _, rfl, h15⟩
end Go.Proofs.YtaiegpggccdgoaaGreat
namespace Go.Proofs.YtaiegpggccdgoaaGreat
open Go Go.RowKit
set_option maxHeartbeats 800000 in
set_option maxRecDepth 8000 in
theorem l01Mod_any (p n : Int) (w : World) (hp : 0 < p) (hp2 : p ≤ 13) (_h1 : -1000000000000 ≤ n) (_h2 : n ≤ 1000000000000) :
    Calls Tryz.prog 136 #[.int .i64 p, .int .i64 n] w fun e w' => e = .returned (.int .i64 (n % p)) ∧ w = w' := by
 go_enter Tryz.func136, Tryz.ntmps136
 go_wp2
 go_ret
 exact ⟨ret_int (num_math p n hp hp2), rfl⟩
set_option maxHeartbeats 1600000 in
set_option maxRecDepth 8000 in
theorem l11Scale_any (p : Int) (f : Int) (A : Option Addr) (n c : Nat) (xs : List Int) (w : World) (hp : 2 ≤ p) (hp2 : p ≤ 13) (hn : n ≤ 65536) (ha : Rd w A n (ints xs)) (hx : NumsL p xs) (hf1 : 0 ≤ f) (hf2 : f ≤ 1000) :
    Calls Tryz.prog 93 #[.int .i64 p, .int .i64 f, .slice A n c] w fun e w' => ∃ A' c', e = .returned (.slice A' n c') ∧ MkI w w' A' n c' (scaleL p xs f) := by
 have hxl : xs.length = n := by have := ha.1; rwa [ints_length] at this
 have Hx := Lib.hid hxl; clear hxl
 have hM0 := Mk.lit (E := 2) (Below.refl w.heap.size w) #[] (by simp)
 go_enter Tryz.func93, Tryz.ntmps93
 go_wp2
 go_loopw [7, 8] (fun out i wr => ∃ (k : Nat) (A' : Option Addr) (c' : Nat), k ≤ n ∧ i = .int .i64 k ∧ out = .slice A' k c' ∧ MkI w wr A' k c' ((scaleL p xs f).take k)) (fun _ i _ => n - (intOf i).toNat)
 case atStart => exact ⟨0, _, _, by omega, rfl, rfl, by simpa [MkI, ints] using hM0⟩
 case round =>
  obtain ⟨k, A', c', hk, rfl, rfl, hM⟩ := hrel
  clear hM0
  by_cases hlt : k < n
  · obtain ⟨g, o, rfl, hxk, hcx⟩ := ha.int hlt
    have hc0 : wr.cell? ⟨g, o + k, none⟩ = some (.int .i64 xs[k]) := (hM.1.cell (World.block_lt_of_cell? _ _ hcx)).trans hcx
    obtain ⟨x1, x2⟩ := hx _ (List.getElem_mem hxk)
    have HM := Lib.hid hM
    obtain ⟨m1, m2⟩ := mul_small hf1 hf2 x1 (show xs[k] ≤ 13 by omega)
    have hmod := l01Mod_any p (f * xs[k]) wr (by omega) hp2 (by omega) (by omega)
    rw [Int.mul_comm f] at m1 m2 hmod
    have ecomm : f * xs[k] = xs[k] * f := Int.mul_comm _ _
    clear ha hM hcx
    go_wp2_with fail
    refine hmod.mono ?_
    rintro e w3 ⟨rfl, rfl⟩
    clear ecomm
    go_wp2_with (at_builtin; refine wpList_app1 w _ 24 2 _ _ Tryz.underlying24 info_i rfl (by omega) rfl _ _ rfl A' k c' _ _ HM.out (by omega) rfl rfl rfl ?_; intro A2 c2 w2 hM2 _ _)
    go_roundw
    case rel => exact ⟨k + 1, A2, c2, by omega, by go_num, rfl, by rw [scaleL_take p xs f k hxk]; simpa [MkI, ints] using hM2⟩
    case measure => simp [intOf]; omega
  · go_wp2
    go_ret
    obtain rfl : k = n := by omega
    rw [List.take_of_length_le (by rw [scaleL_len, Hx.out]; omega)] at hM
    exact ⟨_, _, rfl, hM⟩
theorem plus1_take {p : Int} {a b : List Int} {k : Nat} (ha : k < a.length) (hb : k < b.length) : (plusL p a b 1).take (k + 1) = (plusL p a b 1).take k ++ [(a[k] + b[k]) % p] := by
 have hl : k < (plusL p a b 1).length := by rw [plusL_len]; exact ha
 rw [List.take_succ_eq_append_getElem hl]
 congr 2
 have := plusL_getD (p := p) b 1 ha
 rw [getD_of_lt 0 hl, getD_of_lt 0 ha, getD_of_lt 0 hb, Int.one_mul] at this
 exact this
set_option maxHeartbeats 1600000 in
set_option maxRecDepth 8000 in
theorem l11Add_any (p : Int) (A : Option Addr) (n c : Nat) (xs : List Int) (B : Option Addr) (m d : Nat) (ys : List Int) (w : World) (hp : 2 ≤ p) (hp2 : p ≤ 13) (hn : n ≤ 65536) (hnm : n ≤ m) (ha : Rd w A n (ints xs)) (hx : NumsL p xs) (hb : Rd w B m (ints ys)) (hy : NumsL p ys) :
    Calls Tryz.prog 92 #[.int .i64 p, .slice A n c, .slice B m d] w fun e w' => ∃ A' c', e = .returned (.slice A' n c') ∧ MkI w w' A' n c' (plusL p xs ys 1) := by
 have hxl : xs.length = n := ha.lenI
 have Hx := Lib.hid hxl; clear hxl
 have hM0 := Mk.lit (E := 2) (Below.refl w.heap.size w) #[] (by simp)
 go_enter Tryz.func92, Tryz.ntmps92
 go_wp2
 go_loopw [7, 8] (fun out i wr => ∃ (j : Nat) (A' : Option Addr) (c' : Nat), j ≤ n ∧ i = .int .i64 j ∧ out = .slice A' j c' ∧ MkI w wr A' j c' ((plusL p xs ys 1).take j)) (fun _ i _ => n - (intOf i).toNat)
 case atStart => exact ⟨0, _, _, by omega, rfl, rfl, by simpa [MkI, ints] using hM0⟩
 case round =>
  obtain ⟨j, A', c', hj, rfl, rfl, hM⟩ := hrel
  clear hM0
  by_cases hlt : j < n
  · obtain ⟨g, o, rfl, hxj, hcx⟩ := (ha.below hM.b).int hlt
    obtain ⟨g2, o2, rfl, hyj, hcy⟩ := (hb.below hM.b).int (show j < m by omega)
    obtain ⟨x1, x2⟩ := hx _ (List.getElem_mem hxj)
    obtain ⟨y1, y2⟩ := hy _ (List.getElem_mem hyj)
    have HV : Hid ((plusL p xs ys 1).take (j + 1) = (plusL p xs ys 1).take j ++ [(xs[j] + ys[j]) % p]) := Lib.hid (plus1_take hxj hyj)
    have W2 := i64_fit (xs[j] + ys[j]) (by omega) (by omega)
    have i1 : (0 : Int) ≤ (j : Int) := by omega
    have i2 : (j : Int) < (n : Int) := by omega
    have i3 : (j : Int) < (m : Int) := by omega
    go_wp2
    refine wp_obs 13 [[],[],[],[],[2,3],[2,3,4],[],[],[6,7],[6,7,8],[2,3,4,5,6,7,8,9],[1,2,3,4,5,6,7,8,9,10],[1,2,3,4,5,6,7,8,9,10,11],[0,1,2,3,4,5,6,7,8,9,10,11,12],[0,1,2,3,4,5,6,7,8,9,10,11,12,13]] [VIs (.slice A' j c'), VIs (.int .i64 (p)), VIs (.slice (some ⟨g, o, none⟩) n c), VIs (.int .i64 (j)), VIs (.pointer (some ⟨g, o + j, none⟩)), VIs (.int .i64 (xs[j])), VIs (.slice (some ⟨g2, o2, none⟩) m d), VIs (.int .i64 (j)), VIs (.pointer (some ⟨g2, o2 + j, none⟩)), VIs (.int .i64 (ys[j])), VIs (.int .i64 (xs[j] + ys[j])), VIs (.int .i64 ((xs[j] + ys[j]) % p)), VBs 2 #[.int .i64 ((xs[j] + ys[j]) % p)]] (fun w' => MkI w w' A' j c' ((plusL p xs ys 1).take j) ∧ w'.cell? ⟨g, o + j, none⟩ = some (.int .i64 xs[j]) ∧ w'.cell? ⟨g2, o2 + j, none⟩ = some (.int .i64 ys[j])) (by kernel_rfl) (by kernel_rfl) (fun _ _ h hb => ⟨h.1.below hb, (hb.cell (World.block_lt_of_cell? _ _ h.2.1)).trans h.2.1, (hb.cell (World.block_lt_of_cell? _ _ h.2.2)).trans h.2.2⟩) (⟨hM.below zG.drew, hcx, hcy⟩) (fun x => ?_)
    refine zS (fun w' hS hV K hK => ?_) ?_
    · obtain ⟨_, q1, q2⟩ := hS; go_simp; exact zO hK
    refine zS (fun w' hS hV K hK => ?_) ?_
    · obtain ⟨_, q1, q2⟩ := hS; go_simp; exact zO hK
    refine zS (fun w' hS hV K hK => ?_) ?_
    · obtain ⟨_, q1, q2⟩ := hS; go_simp; exact zO hK
    refine zS (fun w' hS hV K hK => ?_) ?_
    · obtain ⟨_, q1, q2⟩ := hS; go_simp; exact zO hK
    refine zS (fun w' hS hV K hK => ?_) ?_
    · have e2 := zQ hV 2; have e3 := zQ hV 3; obtain ⟨_, q1, q2⟩ := hS; go_simp; exact zO hK
    refine zS (fun w' hS hV K hK => ?_) ?_
    · have e4 := zQ hV 4; obtain ⟨_, q1, q2⟩ := hS; go_simp; exact zO hK
    refine zS (fun w' hS hV K hK => ?_) ?_
    · obtain ⟨_, q1, q2⟩ := hS; go_simp; exact zO hK
    refine zS (fun w' hS hV K hK => ?_) ?_
    · obtain ⟨_, q1, q2⟩ := hS; go_simp; exact zO hK
    refine zS (fun w' hS hV K hK => ?_) ?_
    · have e6 := zQ hV 6; have e7 := zQ hV 7; obtain ⟨_, q1, q2⟩ := hS; go_simp; exact zO hK
    refine zS (fun w' hS hV K hK => ?_) ?_
    · have e8 := zQ hV 8; obtain ⟨_, q1, q2⟩ := hS; go_simp; exact zO hK
    refine zS (fun w' hS hV K hK => ?_) ?_
    · have e5 := zQ hV 5; have e9 := zQ hV 9; obtain ⟨_, q1, q2⟩ := hS; go_simp; exact zO hK
    refine zS (fun w' hS hV K hK => ?_) ?_
    · have e1 := zQ hV 1; have e10 := zQ hV 10; obtain ⟨_, q1, q2⟩ := hS; go_simp; refine (l01Mod_any p (xs[j] + ys[j]) w' (by omega) hp2 (by omega) (by omega)).mono ?_; rintro e v1 ⟨rfl, rfl⟩; exact zO hK
    refine zS (fun w' hS hV K hK => ?_) ?_
    · have e11 := zQ hV 11; obtain ⟨_, q1, q2⟩ := hS; go_simp; exact hK.out _ _ _ rfl rfl ⟨_, rfl, Blk.new _ _ _⟩ (zG.alloc (Nat.le_refl _) _)
    refine fun w' hS hV => ?_
    have e0 := zT hV 0
    have e1 := zT hV 1
    have e2 := zT hV 2
    have e3 := zT hV 3
    have e4 := zT hV 4
    have e5 := zT hV 5
    have e6 := zT hV 6
    have e7 := zT hV 7
    have e8 := zT hV 8
    have e9 := zT hV 9
    have e10 := zT hV 10
    have e11 := zT hV 11
    obtain ⟨b12, e12, h12⟩ := hV 12 (by decide)
    simp only [e0, e1, e2, e3, e4, e5, e6, e7, e8, e9, e10, e11, e12]
    clear e0 e1 e2 e3 e4 e5 e6 e7 e8 e9 e10 e11 e12
    obtain ⟨s1, s2, s3⟩ := hS
    refine any_plain (j := 13) (by kernel_rfl) (Eq.trans (by simp only [zA, zB, zC]; exact rfl) rfl) rfl (fun K hK => ?_)
    refine wp_app1 w w' 24 2 _ _ Tryz.underlying24 info_i rfl (by omega) _ _ rfl A' j c' _ _ s1 (by omega) rfl _ h12 (by rfl) (by rfl) ?_
    intro A2 c2 w2 hM2 hgr
    refine hK.out _ _ ?_
    simp only [Act.put, zD, zE, zF]
    refine any_one (j := 14) (by kernel_rfl) (Eq.trans (by simp only [zA, zB, zC]; exact rfl) rfl) (fun K hK => ?_)
    go_simp
    refine hK.out _ _ (wpAny_done (by kernel_rfl) ?_ _)
    clear W2 s2 s3 hM
    go_wp2
    go_roundw
    case rel => exact ⟨j + 1, A2, c2, by omega, by go_num, rfl, by rw [HV.out]; simpa [MkI, ints] using hM2⟩
    case measure => simp [intOf]; omega
  · go_wp2
    go_ret
    obtain rfl : j = n := by omega
    rw [List.take_of_length_le (by rw [plusL_len, Hx.out]; omega)] at hM
    exact ⟨_, _, rfl, hM⟩
theorem minus_eq {p : Int} {x y : List Int} (hl : x.length ≤ y.length) : plusL p x (scaleL p y (p - 1)) 1 = plusL p x y (-1) := by
 refine list_ext_getD 0 (by rw [plusL_len, plusL_len]) fun i hi => ?_
 rw [plusL_len] at hi
 rw [plusL_getD _ _ hi, plusL_getD _ _ hi, scaleL_getD _ (by omega), Int.one_mul, Int.add_emod, Int.emod_emod_of_dvd _ (Int.dvd_refl p), ← Int.add_emod, show x.getD i 0 + y.getD i 0 * (p - 1) = x.getD i 0 + -1 * y.getD i 0 + p * y.getD i 0 by rw [Int.mul_sub, Int.mul_one, Int.mul_comm (y.getD i 0) p]; omega, Int.add_mul_emod_self_left]
set_option maxHeartbeats 1600000 in
set_option maxRecDepth 8000 in
theorem l11Minus_any (p : Int) (A : Option Addr) (n c : Nat) (xs : List Int) (B : Option Addr) (m d : Nat) (ys : List Int) (w : World) (hp : 2 ≤ p) (hp2 : p ≤ 13) (hm : m ≤ 65536) (hnm : n ≤ m) (ha : Rd w A n (ints xs)) (hx : NumsL p xs) (hb : Rd w B m (ints ys)) (hy : NumsL p ys) :
    Calls Tryz.prog 123 #[.int .i64 p, .slice A n c, .slice B m d] w fun e w' => ∃ A' c', e = .returned (.slice A' n c') ∧ MkI w w' A' n c' (plusL p xs ys (-1)) := by
 have hsc := l11Scale_any p (p - 1) B m d ys w hp hp2 hm hb hy (by omega) (by omega)
 have hadd := fun wx (Y : Option Addr) (cy : Nat) (h : MkI w wx Y m cy (scaleL p ys (p - 1))) => l11Add_any p A n c xs Y m cy (scaleL p ys (p - 1)) wx hp hp2 (by omega) hnm (ha.below h.b) hx h.rd (scaleL_nums (by omega) _ _)
 rw [minus_eq (by rw [ha.lenI, hb.lenI]; exact hnm)] at hadd
 obtain ⟨Z, hZ⟩ : ∃ Z, Z = plusL p xs ys (-1) := ⟨_, rfl⟩
 rw [← hZ] at hadd ⊢
 have HADD := Lib.hid hadd
 clear hZ hadd
 go_enter Tryz.func123, Tryz.ntmps123
 go_wp2_with fail
 refine hsc.mono ?_
 rintro e w2 ⟨Y, cy, rfl, hM⟩
 have h2 := HADD.out w2 Y cy hM
 go_wp2_with fail
 refine h2.mono ?_
 rintro e w3 ⟨Z3, c3, rfl, hM3⟩
 go_wp2
 go_ret
 exact ⟨_, _, rfl, hM3.after hM.b⟩
theorem scale_neg (p : Int) (x : List Int) : scaleL p x (p - 1) = scaleL p x (-1) := by
 refine list_ext_getD 0 (by rw [scaleL_len, scaleL_len]) fun i hi => ?_
 rw [scaleL_len] at hi
 rw [scaleL_getD _ hi, scaleL_getD _ hi, show x.getD i 0 * (p - 1) = x.getD i 0 * -1 + p * x.getD i 0 by rw [Int.mul_sub, Int.mul_one, Int.mul_comm (x.getD i 0) p]; omega, Int.add_mul_emod_self_left]
set_option maxHeartbeats 400000 in
set_option maxRecDepth 8000 in
theorem l11Star_any (p : Int) (X : Option Addr) (n c : Nat) (xs : List Int) (w : World) (hp : 2 ≤ p) (hp2 : p ≤ 13) (hn : n ≤ 65536) (h0 : 0 < n) (hx : Rd w X n (ints xs)) (hxs : NumsL p xs) :
    Calls Tryz.prog 161 #[.int .i64 p, .slice X n c] w fun e w' => ∃ A' c', e = .returned (.slice A' n c') ∧ MkI w w' A' n c' (conjL p xs) := by
 obtain ⟨gx, ox, rfl, hxk, hcx⟩ := hx.int h0
 rw [Nat.add_zero] at hcx
 have hs1 := l11Scale_any p (p - 1) (some ⟨gx, ox, none⟩) n c xs w hp hp2 hn hx hxs (by omega) (by omega)
 rw [scale_neg] at hs1
 have HS1 := Lib.hid hs1
 clear hs1
 have HE : Hid (xs[0] = xs.getD 0 0) := Lib.hid (by rw [List.getD_eq_getElem?_getD, List.getElem?_eq_getElem hxk]; rfl)
 have hlt := World.block_lt_of_cell? _ _ hcx
 go_enter Tryz.func161, Tryz.ntmps161
 go_wp2_with fail
 refine HS1.out.mono ?_
 rintro e w1 ⟨G, c1, rfl, hM⟩
 have hcx1 := (hM.b.cell hlt).trans hcx
 rcases hM.2.form with ⟨_, hz⟩ | ⟨g, rfl, hg, _⟩
 · omega
 · obtain ⟨u1, hc1⟩ := hM.2.cellI h0
   have hf1 := hM.2.frozen_ 0
   have hset := (hM.set 0 (.int .i64 xs[0])).1
   rw [ints_set, HE.out] at hset
   have HS := Lib.hid hset
   clear hM hset
   go_wp2
   go_ret
   exact ⟨_, _, rfl, by rw [HE.out]; exact HS.out⟩
end Go.Proofs.YtaiegpggccdgoaaGreat
namespace Go.Proofs.YtaiegpggccdgoaaGreat
open Go.RowKit
set_option maxHeartbeats 1600000 in
set_option maxRecDepth 8000 in
theorem l11Mul_zero (p : Int) (hp : 2 ≤ p) (hp2 : p ≤ 13) (A : Option Addr) (c : Nat) (X : Option Addr) (cx : Nat) (xs : List Int) (Y : Option Addr) (cy : Nat) (ys : List Int) (w : World) (hx : Rd w X 1 (ints xs)) (hxs : NumsL p xs) (hy : Rd w Y 1 (ints ys)) (hys : NumsL p ys) :
    Calls Tryz.prog 156 #[.int .i64 p, .slice A 0 c, .slice X 1 cx, .slice Y 1 cy] w fun e w' => ∃ A' c', e = .returned (.slice A' 1 c') ∧ MkI w w' A' 1 c' [(xs.getD 0 0 * ys.getD 0 0) % p] := by
 obtain ⟨gx, ox, rfl, hxk, hcx⟩ := hx.int (show 0 < 1 by omega)
 obtain ⟨gy, oy, rfl, hyk, hcy⟩ := hy.int (show 0 < 1 by omega)
 rw [Nat.add_zero] at hcx hcy
 have b1 := hxs _ (List.getElem_mem hxk)
 have b2 := hys _ (List.getElem_mem hyk)
 have e1 : xs.getD 0 0 = xs[0] := by rw [List.getD_eq_getElem?_getD, List.getElem?_eq_getElem hxk]; rfl
 have e2 : ys.getD 0 0 = ys[0] := by rw [List.getD_eq_getElem?_getD, List.getElem?_eq_getElem hyk]; rfl
 rw [e1, e2]
 obtain ⟨x0, hx0⟩ : ∃ z, z = xs[0] := ⟨_, rfl⟩
 obtain ⟨y0, hy0⟩ : ∃ z, z = ys[0] := ⟨_, rfl⟩
 rw [← hx0] at hcx b1 ⊢
 rw [← hy0] at hcy b2 ⊢
 have hm1 : 0 ≤ x0 * y0 := Int.mul_nonneg b1.1 b2.1
 have hm2 : x0 * y0 ≤ 13 * 13 := Int.mul_le_mul (by omega) (by omega) b2.1 (by omega)
 have HB : -1000000000000 ≤ x0 * y0 ∧ x0 * y0 ≤ 1000000000000 := by omega
 have hwr : IntKind.i64.wrap (x0 * y0) = x0 * y0 := i64_fit _ HB.1 HB.2
 clear e1 e2 hx0 hy0 hx hy hm1 hm2 b1 b2
 go_enter Tryz.func156, Tryz.ntmps156
 go_wp2
 refine wp_obs 11 [[],[],[1],[1,2],[],[4],[4,5],[1,2,3,4,5,6],[0,1,2,3,4,5,6,7],[0,1,2,3,4,5,6,7,8],[0,1,2,3,4,5,6,7,8,9]] [VIs (.int .i64 (p)), VIs (.slice (some ⟨gx, ox, none⟩) 1 cx), VIs (.pointer (some ⟨gx, ox, none⟩)), VIs (.int .i64 (x0)), VIs (.slice (some ⟨gy, oy, none⟩) 1 cy), VIs (.pointer (some ⟨gy, oy, none⟩)), VIs (.int .i64 (y0)), VIs (.int .i64 (x0 * y0)), VIs (.int .i64 ((x0 * y0) % p)), VSl w 1 [(x0 * y0) % p], VSl w 1 [(x0 * y0) % p]] (fun w' => w'.cell? ⟨gx, ox, none⟩ = some (.int .i64 x0) ∧ w'.cell? ⟨gy, oy, none⟩ = some (.int .i64 y0) ∧ Below w.heap.size w w') (by kernel_rfl) (by kernel_rfl) (fun _ _ h hb => ⟨(hb.cell (World.block_lt_of_cell? _ _ h.1)).trans h.1, (hb.cell (World.block_lt_of_cell? _ _ h.2.1)).trans h.2.1, h.2.2.trans (hb.mono h.2.2.size)⟩) (⟨hcx, hcy, zG.drew⟩) (fun x => ?_)
 refine zS (fun w' hS hV K hK => ?_) ?_
 · have q0 := hS.1; have q1 := hS.2.1; go_simp; exact zO hK
 refine zS (fun w' hS hV K hK => ?_) ?_
 · have q0 := hS.1; have q1 := hS.2.1; go_simp; exact zO hK
 refine zS (fun w' hS hV K hK => ?_) ?_
 · have e1 := zQ hV 1; have q0 := hS.1; have q1 := hS.2.1; go_simp; exact zO hK
 refine zS (fun w' hS hV K hK => ?_) ?_
 · have e2 := zQ hV 2; have q0 := hS.1; have q1 := hS.2.1; go_simp; exact zO hK
 refine zS (fun w' hS hV K hK => ?_) ?_
 · have q0 := hS.1; have q1 := hS.2.1; go_simp; exact zO hK
 refine zS (fun w' hS hV K hK => ?_) ?_
 · have e4 := zQ hV 4; have q0 := hS.1; have q1 := hS.2.1; go_simp; exact zO hK
 refine zS (fun w' hS hV K hK => ?_) ?_
 · have e5 := zQ hV 5; have q0 := hS.1; have q1 := hS.2.1; go_simp; exact zO hK
 refine zS (fun w' hS hV K hK => ?_) ?_
 · have e3 := zQ hV 3; have e6 := zQ hV 6; have q0 := hS.1; have q1 := hS.2.1; go_simp; exact zO hK
 refine zS (fun w' hS hV K hK => ?_) ?_
 · have e0 := zQ hV 0; have e7 := zQ hV 7; have q0 := hS.1; have q1 := hS.2.1; go_simp; refine (l01Mod_any p (x0 * y0) w' (by omega) hp2 HB.1 HB.2).mono ?_; rintro e w1 ⟨rfl, rfl⟩; exact zO hK
 refine zS (fun w' hS hV K hK => ?_) ?_
 · have e8 := zQ hV 8; have q0 := hS.1; have q1 := hS.2.1; go_simp; exact hK.out _ _ _ rfl rfl ⟨_, _, rfl, by have := Mk.lit (E := 2) hS.2.2 #[.int .i64 ((x0 * y0) % p)] (by simp [maxLen]); simpa [MkI, ints] using this⟩ (zG.alloc (Nat.le_refl _) _)
 refine zS (fun w' hS hV K hK => ?_) ?_
 · obtain ⟨A9, c9, e9, h9⟩ := hV 9 (by decide); have q0 := hS.1; have q1 := hS.2.1; go_simp; exact hK.out _ _ _ rfl rfl ⟨_, _, rfl, h9⟩ zG
 refine fun w' hS hV => ?_
 have e0 := zT hV 0
 have e1 := zT hV 1
 have e2 := zT hV 2
 have e3 := zT hV 3
 have e4 := zT hV 4
 have e5 := zT hV 5
 have e6 := zT hV 6
 have e7 := zT hV 7
 have e8 := zT hV 8
 obtain ⟨A9, c9, e9, h9⟩ := hV 9 (by decide)
 obtain ⟨A10, c10, e10, h10⟩ := hV 10 (by decide)
 simp only [e0, e1, e2, e3, e4, e5, e6, e7, e8, e9, e10]
 clear e0 e1 e2 e3 e4 e5 e6 e7 e8 e9 e10
 refine wpAny_done (by kernel_rfl) ?_ _
 go_wp2
 go_ret
 exact ⟨_, _, rfl, h10⟩
/-- The contract of the product for k steps. -/
def MulOk (p : Int) (k : Nat) : Prop := ∀ (A : Option Addr) (c : Nat) (st : List Int) (X : Option Addr) (cx : Nat) (xs : List Int) (Y : Option Addr) (cy : Nat) (ys : List Int) (w : World), k ≤ c → pw k ≤ cx → pw k ≤ cy →
 Rd w A k (ints st) → NumsL p st → Rd w X (pw k) (ints xs) → NumsL p xs → Rd w Y (pw k) (ints ys) → NumsL p ys →
 Calls Tryz.prog 156 #[.int .i64 p, .slice A k c, .slice X (pw k) cx, .slice Y (pw k) cy] w fun e w' => ∃ A' c', e = .returned (.slice A' (pw k) c') ∧ MkI w w' A' (pw k) c' (dblL p k st xs ys)
end Go.Proofs.YtaiegpggccdgoaaGreat

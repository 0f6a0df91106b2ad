/-
  LawFnJoins: part 8 of the texts that the proof needs. No condition.
-/
import Derived.Test.YtggigolkncckoaaGreatP7
namespace Go.Proofs.YtggigolkncckoaaGreat
/-- All squares 0. -/
abbrev zs (n : Nat) : List Int := List.replicate n 0
theorem zs_len (n : Nat) : (zs n).length = n := List.length_replicate
theorem zs_get (n i : Nat) : (zs n).getD i 0 = 0 := by
  rw [List.getD_eq_getElem?_getD, List.getElem?_replicate]; split <;> rfl
theorem comZ_apart (sq : List Int) {a b : Nat} (h : ∀ i, ¬ (bit b i = 1 ∧ bit a i = 1)) : ∀ k, comZ sq a b k = 1 := by
  intro k
  induction k with
  | zero => rfl
  | succ k ih => simp only [comZ]; rw [ih, if_neg (h k)]; rfl
theorem comZ_hit (n : Nat) {a b i : Nat} (h : bit b i = 1 ∧ bit a i = 1) : ∀ k, i < k → comZ (zs n) a b k = 0 := by
  intro k
  induction k with
  | zero => intro h; omega
  | succ k ih =>
    intro hk
    simp only [comZ]
    by_cases e : i = k
    · subst e; rw [if_pos h, zs_get, Int.mul_zero]
    · rw [ih (by omega), Int.zero_mul]
theorem and_zero_iff (a b : Nat) : (a &&& b = 0) ↔ ∀ i, ¬ (bit b i = 1 ∧ bit a i = 1) := by
  constructor
  · intro h i hi
    have := congrArg (fun x => x.testBit i) h
    simp only [Nat.testBit_and, Nat.zero_testBit, (bit_iff a i).1 hi.2, (bit_iff b i).1 hi.1] at this
    exact absurd this (by decide)
  · intro h
    refine Nat.eq_of_testBit_eq fun i => ?_
    rw [Nat.testBit_and, Nat.zero_testBit]
    cases ha : a.testBit i
    · rfl
    · cases hb : b.testBit i
      · rfl
      · exact absurd ⟨(bit_iff b i).2 hb, (bit_iff a i).2 ha⟩ (h i)
theorem facZ_apart {sq : List Int} {n a b : Nat} (hn : sq.length = n) (h : a &&& b = 0) : facZ sq a b = facZ (zs n) a b := by
  unfold facZ
  rw [hn, zs_len, comZ_apart sq ((and_zero_iff a b).1 h), comZ_apart (zs n) ((and_zero_iff a b).1 h)]
theorem facZ_hit {n a b : Nat} (ha : a < pw n) (h : ¬ a &&& b = 0) : facZ (zs n) a b = 0 := by
  unfold facZ
  rw [zs_len]
  have h1 : ¬ ∀ i, ¬ (bit b i = 1 ∧ bit a i = 1) := fun h2 => h ((and_zero_iff a b).2 h2)
  obtain ⟨i, hi⟩ := Classical.not_forall.1 h1
  have hi' := Classical.not_not.1 hi
  have hin : i < n := by
    rcases Nat.lt_or_ge i n with h | h
    · exact h
    · have := bit_high (b := a) (n := n) ha h
      rw [this] at hi'
      exact absurd hi'.2 (by decide)
  rw [comZ_hit n hi' n hin, Int.mul_zero]
section
variable {p : Int} {n : Nat}
/-- Outer products are products with all squares 0. -/
theorem wedge_mul {sq : List Int} (hn : sq.length = n) {xs ys : List Int} (hx : xs.length = pw n) (hy : ys.length = pw n) : wedgeL p sq xs ys = mulL p (zs n) xs ys := by
  refine list_ext_getD 0 (by rw [wedgeL_len, mulL_len]) fun m hm => ?_
  rw [wedgeL_len, hx] at hm
  unfold wedgeL mulL
  rw [prodL_getD p sq _ xs ys n m hx hy hm, prodL_getD p (zs n) _ xs ys n m hx hy hm]
  refine sumTo_mod p fun a ha => ?_
  unfold term
  by_cases h : a &&& (a ^^^ m) = 0
  · have hb : (fun a b : Nat => a &&& b == 0) a (a ^^^ m) = true := by show (a &&& (a ^^^ m) == 0) = true; rw [h]; rfl
    rw [if_pos hb, if_pos rfl, Int.mul_emod, fac_facZ, facZ_apart hn h, ← fac_facZ, ← Int.mul_emod]
  · rw [if_neg (by simpa using h), if_pos rfl, Int.mul_emod, fac_facZ, facZ_hit ha h, Int.zero_emod, Int.mul_zero, Int.zero_emod]
theorem wedge_cl' {sq : List Int} (hn : sq.length = n) (x y : Cl p (zs n)) : wedgeL p sq x.l y.l = (x * y).l := by
  rw [wedge_mul hn (x.len.trans (by rw [zs_len])) (y.len.trans (by rw [zs_len])), Cl.mul_l]
theorem bil_zs (u v : List Int) : bil (zs n) u v = 0 := by
  unfold bil
  exact sumTo_zero fun i _ => by rw [zs_get, Int.mul_zero]
theorem Cl.zz (hp : 0 < p) (hP : isP p = true) (v : List Int) : (Cl.vec hp v : Cl p (zs n)) * Cl.vec hp v = Cl.zero hp := by
  rw [Cl.vec_sq hp hP, bil_zs, Cl.zero_sm]
theorem Cl.za (hp : 0 < p) (u v : List Int) : (Cl.vec hp u : Cl p (zs n)) * Cl.vec hp v = (-1 : Int) * (Cl.vec hp v * Cl.vec hp u) := by
  have h := Cl.vec_anti hp u v (sq := zs n)
  rw [bil_zs, Int.mul_zero, Cl.zero_sm] at h
  have e := Cl.add_back ((Cl.vec hp u : Cl p (zs n)) * Cl.vec hp v) (Cl.vec hp v * Cl.vec hp u) 1
  rw [Cl.one_sm] at e
  rw [← e, h, Cl.add_comm, Cl.add_zero]
/-- A vector of the list times the product of the list is 0. -/
theorem Cl.in_prod (hp : 0 < p) (hP : isP p = true) : ∀ (L : List (List Int)) (v : List Int), v ∈ L → (Cl.vec hp v : Cl p (zs n)) * Cl.prod hp L = Cl.zero hp
  | [], v, h => by cases h
  | u :: L, v, h => by
    rw [Cl.prod_cons]
    rcases List.mem_cons.1 h with rfl | h
    · rw [← Cl.mul_assoc, Cl.zz hp hP, Cl.zero_mul]
    · rw [← Cl.mul_assoc, Cl.za, Cl.sm_mul, Cl.mul_assoc, Cl.in_prod hp hP L v h, Cl.mul_zero, ← Cl.zero_sm (Cl.one hp), Cl.sm_sm, Int.mul_zero]
theorem Cl.vec_cg (hp : 0 < p) {sq : List Int} {u v : List Int} (h : ∀ q, q < sq.length → u.getD q 0 % p = v.getD q 0 % p) : (Cl.vec hp u : Cl p sq) = Cl.vec hp v := Cl.same fun m hm => by
  rw [Cl.vec_co hp u hm, Cl.vec_co hp v hm]
  exact sumTo_mod p fun i hi => by split
                                   · exact h i hi
                                   · rfl
theorem Cl.vec_sp (hp : 0 < p) {sq : List Int} {B : List (List Int)} {v : List Int} {c : Nat → Int} (h : ∀ q, q < sq.length → v.getD q 0 % p = (sumTo B.length fun i => c i * ent B i q) % p) :
    (Cl.vec hp v : Cl p sq) = Cl.sum hp B.length fun i => c i * Cl.vec hp (B.getD i []) := Cl.same fun m hm => by
  rw [Cl.vec_co hp v hm, Cl.sum_co hp _ hm]
  have e2 : (sumTo B.length fun i => (c i * Cl.vec hp (B.getD i []) : Cl p sq).co m) % p = (sumTo B.length fun i => c i * sumTo sq.length fun q => if m = 2 ^ q then (B.getD i []).getD q 0 else 0) % p :=
    sumTo_mod p fun i _ => by rw [Cl.sm_co _ _ hm, Int.mul_emod, Cl.vec_co hp _ hm, ← Int.mul_emod]
  rw [e2]
  rcases Classical.em (∃ q, q < sq.length ∧ m = 2 ^ q) with ⟨q, hq, rfl⟩ | hno
  · rw [sumTo_one q hq fun j _ hne => if_neg fun e => hne (pow_inj e).symm, if_pos rfl, h q hq]
    refine sumTo_mod p fun i _ => ?_
    rw [sumTo_one q hq fun j _ hne => if_neg fun e => hne (pow_inj e).symm, if_pos rfl]; rfl
  · rw [sumTo_zero fun q hq => if_neg fun e => hno ⟨q, hq, e⟩, sumTo_zero fun i _ => by rw [sumTo_zero fun q hq => if_neg fun e => hno ⟨q, hq, e⟩, Int.mul_zero]]
theorem Cl.sum_mul (hp : 0 < p) {sq : List Int} (y : Cl p sq) (f : Nat → Cl p sq) : ∀ k, Cl.sum hp k f * y = Cl.sum hp k fun i => f i * y := by
  intro k
  induction k with
  | zero => exact Cl.zero_mul hp y
  | succ k ih => show (Cl.sum hp k f + f k) * y = _; rw [Cl.add_mul, ih]; rfl
theorem Cl.sum_zero (hp : 0 < p) {sq : List Int} {f : Nat → Cl p sq} : ∀ k, (∀ i, i < k → f i = Cl.zero hp) → Cl.sum hp k f = Cl.zero hp
  | 0, _ => rfl
  | k + 1, h => by
    show Cl.sum hp k f + f k = _
    rw [Cl.sum_zero hp k fun i hi => h i (by omega), h k (by omega), Cl.add_zero]
/-- A vector of the span times the product is 0. -/
theorem Cl.span_prod (hp : 0 < p) (hP : isP p = true) {B : List (List Int)} {v : List Int} (h : Sp p n B fun q => v.getD q 0) : (Cl.vec hp v : Cl p (zs n)) * Cl.prod hp B = Cl.zero hp := by
  obtain ⟨c, hc⟩ := h
  rw [Cl.vec_sp hp (B := B) (c := c) (fun q hq => hc q (by rw [zs_len] at hq; exact hq)), Cl.sum_mul]
  refine Cl.sum_zero hp _ fun i hi => ?_
  rw [Cl.sm_mul, Cl.in_prod hp hP B _ (getD_mem [] hi), ← Cl.zero_sm (Cl.one hp), Cl.sm_sm, Int.mul_zero]
/-- A vector times a multivector, at a place. -/
theorem Cl.vec_mul_co (hp : 0 < p) {sq : List Int} (v : List Int) (y : Cl p sq) {m : Nat} (hm : m < pw sq.length) : (Cl.vec hp v * y : Cl p sq).co m % p = (sumTo sq.length fun i => v.getD i 0 * y.co (2 ^ i ^^^ m) * facZ sq (2 ^ i) (2 ^ i ^^^ m)) % p := by
  rw [Cl.mul_co _ _ hm, mulZ_cg p sq (fun a ha => Cl.vec_co hp v ha) (fun a ha => rfl) hm]
  unfold mulZ
  rw [sumTo_congr (g := fun a => sumTo sq.length fun i => if a = 2 ^ i then v.getD i 0 * y.co (2 ^ i ^^^ m) * facZ sq (2 ^ i) (2 ^ i ^^^ m) else 0) fun a ha => ?_, sumTo_comm]
  · congr 1
    refine sumTo_congr fun i hi => ?_
    rw [sumTo_one (2 ^ i) (two_lt hi) fun a _ hne => if_neg hne, if_pos rfl]
  · rw [← sumTo_mul_right, ← sumTo_mul_right]
    refine sumTo_congr fun i _ => ?_
    by_cases h : a = 2 ^ i
    · rw [if_pos h, if_pos h, h]
    · rw [if_neg h, if_neg h, Int.zero_mul, Int.zero_mul]
theorem pow_and (i m : Nat) : (2 ^ i &&& (2 ^ i ^^^ m) = 0) ↔ m.testBit i = true := by
  have h := and_pow_zero m i
  rw [Nat.and_comm, Nat.xor_comm]
  constructor
  · intro e; rw [← h, e]; rfl
  · intro e; rw [e] at h; simpa using h
theorem wedges_prod {sq : List Int} (hn : sq.length = n) (hp : 0 < p) (h2 : 2 ≤ p) : ∀ (k : Nat) (L : List (List Int)), L.length = k → (∀ v ∈ L, NumsL p v) → wedgesL p sq n L = (Cl.prod hp L : Cl p (zs n)).l := by
  intro k
  induction k with
  | zero =>
    intro L h _
    rw [List.eq_nil_of_length_eq_zero h]
    show bladeL n 0 = (Cl.one hp : Cl p (zs n)).l
    rw [Cl.one_l h2, zs_len]
  | succ k ih =>
    intro L h hN
    have hne : L ≠ [] := fun e => by rw [e] at h; cases h
    rw [← List.dropLast_concat_getLast hne] at hN ⊢
    rw [wedgesL_snoc, Cl.prod_snoc, ih L.dropLast (by rw [List.length_dropLast]; omega) fun v hv => hN v (List.mem_append_left _ hv)]
    have hv := hN (L.getLast hne) (by simp)
    have e : vecTo n (L.getLast hne) n = (Cl.vec hp (L.getLast hne) : Cl p (zs n)).l := by rw [Cl.vec_l hp hv, zs_len]
    rw [e, wedge_cl' hn]
/-- A vector whose outer product with that of a reduced basis is 0 lies in its span. -/
theorem Cl.prod_span (hp : 0 < p) (hP : isP p = true) {B : List (List Int)} (hR : Red n B) (hT : Tab p n B) {v : List Int} (h : (Cl.vec hp v : Cl p (zs n)) * Cl.prod hp B = Cl.zero hp) : Sp p n B fun q => v.getD q 0 := by
  have h3 := (isP_ge hP).1
  refine ⟨fun i => v.getD (ld B i) 0, fun q hq => ?_⟩
  show v.getD q 0 % p = (sumTo B.length fun i => v.getD (ld B i) 0 * ent B i q) % p
  obtain ⟨u, hu⟩ : ∃ u : List Int, u = tab n fun q => v.getD q 0 - sumTo B.length fun i => v.getD (ld B i) 0 * ent B i q := ⟨_, rfl⟩
  have hug : ∀ q, q < n → u.getD q 0 = v.getD q 0 - sumTo B.length fun i => v.getD (ld B i) 0 * ent B i q := fun q hq => by rw [hu, tab_getD hq]
  have hld : ∀ j, j < B.length → u.getD (ld B j) 0 = 0 := fun j hj => by
    rw [hug _ (hR.lt j hj), sumTo_one j hj fun i hi hne => by rw [hR.zero j i hj hi hne, Int.mul_zero], hR.one j hj]; omega
  suffices hz : u.getD q 0 % p = 0 by
    rw [hug q hq] at hz
    obtain ⟨k, hk⟩ := cg_wit.1 (hz.trans (Int.zero_emod p).symm)
    exact cg_wit.2 ⟨k, by omega⟩
  by_cases hl : isLd B q = true
  · obtain ⟨j, hj, rfl⟩ := isLd_iff.1 hl
    rw [hld j hj, Int.zero_emod]
  · -- the product with u is 0, too
    have hw : (Cl.vec hp (tab n fun q => sumTo B.length fun i => v.getD (ld B i) 0 * ent B i q) : Cl p (zs n)) * Cl.prod hp B = Cl.zero hp :=
      Cl.span_prod hp hP ⟨fun i => v.getD (ld B i) 0, fun q hq => by
        show (tab n fun q => sumTo B.length fun i => v.getD (ld B i) 0 * ent B i q).getD q 0 % p = _
        rw [tab_getD hq]⟩
    have hv : (Cl.vec hp v : Cl p (zs n)) = Cl.vec hp u + Cl.vec hp (tab n fun q => sumTo B.length fun i => v.getD (ld B i) 0 * ent B i q) := by
      have e := Cl.vec_plus hp (sq := zs n) (a := u) (b := tab n fun q => sumTo B.length fun i => v.getD (ld B i) 0 * ent B i q) (by rw [hu, tab_len, zs_len]) 1
      rw [Cl.one_sm] at e
      rw [← e]
      refine Cl.vec_cg hp fun q hq => ?_
      rw [zs_len] at hq
      rw [plusL_getD _ _ (by rw [hu, tab_len]; exact hq), hug q hq, tab_getD hq, cg_self, Int.one_mul]
      congr 1; omega
    have h0 : (Cl.vec hp u : Cl p (zs n)) * Cl.prod hp B = Cl.zero hp := by
      rw [hv, Cl.add_mul, hw, Cl.add_zero] at h; exact h
    have hMlt := maskTo_lt hR B.length (Nat.le_refl _)
    obtain ⟨M, hM⟩ : ∃ M, M = maskTo B B.length := ⟨_, rfl⟩
    rw [← hM] at hMlt
    have hqM : M.testBit q = false := by
      cases e : M.testBit q
      · rfl
      · rw [hM] at e; exact absurd (maskTo_bits B B.length (Nat.le_refl _) q e) hl
    have hmlt : 2 ^ q ^^^ M < pw n := xor_lt (two_lt hq) hMlt
    have hco := Cl.vec_mul_co hp u (Cl.prod hp B : Cl p (zs n)) (m := 2 ^ q ^^^ M) (by rw [zs_len]; exact hmlt)
    rw [h0, Cl.zero_co hp (by rw [zs_len]; exact hmlt), zs_len, sumTo_one q hq fun i hi hne => ?_] at hco
    · have hW : (Cl.prod hp B : Cl p (zs n)).co (2 ^ q ^^^ (2 ^ q ^^^ M)) = 1 := by
        rw [xor_self_left]
        unfold Cl.co
        rw [← wedges_prod (sq := zs n) (zs_len n) hp (by omega) B.length B rfl fun v hv => (hT v hv).2]
        have := wedges_at (P := p) (by omega) (zs n) hR B.length (Nat.le_refl _) M hMlt (fun i hi => by rw [hM] at hi; exact maskTo_bits B B.length (Nat.le_refl _) i hi)
        rw [List.take_length, ← hM, if_pos rfl] at this
        exact this
      have hF : facZ (zs n) (2 ^ q) (2 ^ q ^^^ (2 ^ q ^^^ M)) * facZ (zs n) (2 ^ q) (2 ^ q ^^^ (2 ^ q ^^^ M)) = 1 := by
        rw [xor_self_left]
        unfold facZ
        rw [comZ_apart (zs n) ((and_zero_iff _ _).1 (by
          have := (pow_and q (2 ^ q ^^^ M)).2 (by rw [Nat.testBit_xor, Nat.testBit_two_pow_self, hqM]; rfl)
          rwa [xor_self_left] at this)), Int.mul_one, sg_two]
      rw [hW, Int.mul_one] at hco
      obtain ⟨k, hk⟩ := cg_wit.1 (((Int.zero_emod p).trans hco).symm.trans (Int.zero_emod p).symm)
      have : (u.getD q 0) = 0 + p * (k * facZ (zs n) (2 ^ q) (2 ^ q ^^^ (2 ^ q ^^^ M))) := by grind
      exact (cg_wit (b := 0)).2 ⟨_, this⟩ |>.trans (Int.zero_emod p)
    · -- another place
      by_cases hb : (2 ^ q ^^^ M).testBit i = true
      · have hiM : M.testBit i = true := by
          rw [Nat.testBit_xor, Nat.testBit_two_pow] at hb
          simpa [Ne.symm hne] using hb
        rw [hM] at hiM
        obtain ⟨j, hj, rfl⟩ := isLd_iff.1 (maskTo_bits B B.length (Nat.le_refl _) i hiM)
        rw [hld j hj, Int.zero_mul, Int.zero_mul]
      · rw [facZ_hit (two_lt hi) (fun e => hb ((pow_and i _).1 e)), Int.mul_zero]
/-- What the subspace of a multivector has: the vectors whose outer product with it is 0. -/
theorem sub_sp {sq : List Int} (hn : sq.length = n) (h0 : 0 < n) (hp : 0 < p) (hP : isP p = true) (x : Cl p (zs n)) (v : List Int) : Sp p n (subL p sq n x.l) (fun q => v.getD q 0) ↔ (Cl.vec hp v : Cl p (zs n)) * x = Cl.zero hp := by
  have h3 := (isP_ge hP).1
  have hT := wcolsL_tab (P := p) hp sq n x.l
  unfold subL
  rw [kernL_sp hP (by have := transL_tab hp hT; rwa [wcolsL_len] at this), orth_trans hT (wcolsL_len _ _ _ _) h0]
  have e : ∀ i, i < pw n → (sumTo n fun q => ent (wcolsL p sq n x.l) q i * v.getD q 0) % p = ((Cl.vec hp v : Cl p (zs n)) * x).co i % p := fun i hi => by
    rw [Cl.vec_sum hp v, Cl.sum_mul, Cl.sum_co hp _ (by rw [zs_len]; exact hi), zs_len]
    refine sumTo_mod p fun q hq => ?_
    rw [Cl.sm_mul, Cl.sm_co _ _ (by rw [zs_len]; exact hi), Int.mul_comm]
    have e1 : ent (wcolsL p sq n x.l) q i = ((Cl.vec hp (unitRow n q) : Cl p (zs n)) * x).co i := by
      unfold ent wcolsL
      rw [tab_getD hq]
      unfold wcolL
      have e2 : vecTo n (unitRow n q) n = (Cl.vec hp (unitRow n q) : Cl p (zs n)).l := by rw [Cl.vec_l hp (unitRow_nums (by omega) _ _), zs_len]
      rw [e2, wedge_cl' hn]; rfl
    rw [e1]
  constructor
  · intro h
    refine Cl.same fun m hm => ?_
    rw [zs_len] at hm
    rw [← e m hm, h m hm, Cl.zero_co hp (by rw [zs_len]; exact hm)]
  · intro h i hi
    rw [e i hi, h, Cl.zero_co hp (by rw [zs_len]; exact hi)]
/-- The subspace of the outer product of a reduced basis has this basis. -/
theorem sub_wedges {sq : List Int} (hn : sq.length = n) (h0 : 0 < n) (hP : isP p = true) {B : List (List Int)} (hR : Red n B) (hT : Tab p n B) : subL p sq n (wedgesL p sq n B) = B := by
  have h3 := (isP_ge hP).1
  have hp : 0 < p := by omega
  rw [wedges_prod hn hp (by omega) B.length B rfl fun v hv => (hT v hv).2]
  have hk : Tab p n (subL p sq n (Cl.prod hp B : Cl p (zs n)).l) := by unfold subL; exact kernL_tab (by omega) _ _
  refine Red.unique (p := p) (by omega) (by unfold subL; exact kernL_red hP _ _) hR hk hT (fun i hi => ?_) fun i hi => ?_
  · have h := (sub_sp hn h0 hp hP (Cl.prod hp B) ((subL p sq n (Cl.prod hp B : Cl p (zs n)).l).getD i [])).1 (Sp.row hi)
    exact Cl.prod_span hp hP hR hT h
  · exact (sub_sp hn h0 hp hP (Cl.prod hp B) (B.getD i [])).2 (Cl.span_prod hp hP (Sp.row hi))
/-- Products of k vectors have grade k alone. -/
theorem pc_down : ∀ m : Nat, m < 64 → ∀ i : Nat, i < 6 → m.testBit i = true → pc (2 ^ i ^^^ m) + 1 = pc m := by decide +kernel
theorem Cl.prod_grade (hp : 0 < p) (h6 : n ≤ 6) : ∀ (L : List (List Int)) (m : Nat), m < pw n → (Cl.prod hp L : Cl p (zs n)).co m ≠ 0 → pc m = L.length
  | [], m, hm, h => by
    have e := Cl.one_co (sq := zs n) hp (m := m) (by rw [zs_len]; exact hm)
    by_cases h0 : m = 0
    · rw [h0, pc_zero]; rfl
    · rw [if_neg h0, Int.zero_emod, Cl.co_mod] at e
      exact absurd e h
  | v :: L, m, hm, h => by
    have hpw : pw n ≤ 64 := pw_le h6
    rcases Classical.em (∃ i, i < n ∧ m.testBit i = true ∧ (Cl.prod hp L : Cl p (zs n)).co (2 ^ i ^^^ m) ≠ 0) with ⟨i, hi, hb, hne⟩ | hno
    · have h1 := Cl.prod_grade hp h6 L _ (xor_lt (two_lt hi) hm) hne
      have h2 := pc_down m (by omega) i (by omega) hb
      rw [List.length_cons]; omega
    · exfalso
      refine h ?_
      rw [Cl.prod_cons, ← Cl.co_mod, Cl.vec_mul_co hp v _ (by rw [zs_len]; exact hm), zs_len, sumTo_zero fun i hi => ?_, Int.zero_emod]
      by_cases hb : m.testBit i = true
      · have : (Cl.prod hp L : Cl p (zs n)).co (2 ^ i ^^^ m) = 0 := Classical.byContradiction fun h1 => hno ⟨i, hi, hb, h1⟩
        rw [this, Int.mul_zero, Int.zero_mul]
      · rw [facZ_hit (two_lt hi) (fun e => hb ((pow_and i _).1 e)), Int.mul_zero]
/-- The outer product of a reduced basis is a blade. -/
theorem blade_wedges {sq : List Int} (hn : sq.length = n) (h0 : 0 < n) (h6 : n ≤ 6) (hP : isP p = true) {B : List (List Int)} (hR : Red n B) (hT : Tab p n B) : isBl p sq n (wedgesL p sq n B) = true := by
  have h3 := (isP_ge hP).1
  have hp : 0 < p := by omega
  have hsub := sub_wedges hn h0 hP hR hT
  have hpr := wedges_prod hn hp (by omega) B.length B rfl fun v hv => (hT v hv).2
  have hpw : pw n ≤ 64 := pw_le h6
  have hl : (wedgesL p sq n B).length = pw n := wedgesL_len p sq n _ _ rfl
  have hall : ∀ g ∈ gradesL (wedgesL p sq n B), g = ((B.length : Nat) : Int) := fun g hg => by
    obtain ⟨i, hi, hne, rfl⟩ := (gradesL_mem _ (by rw [hl]; exact hpw) g).1 hg
    rw [hl] at hi
    rw [hpr] at hne
    rw [Cl.prod_grade hp h6 B i hi hne]
  have hmem : ((B.length : Nat) : Int) ∈ gradesL (wedgesL p sq n B) := by
    have hMlt := maskTo_lt hR B.length (Nat.le_refl _)
    have h1 := wedges_at (P := p) (by omega) sq hR B.length (Nat.le_refl _) (maskTo B B.length) hMlt (fun i hi => maskTo_bits B B.length (Nat.le_refl _) i hi)
    rw [List.take_length, if_pos rfl] at h1
    have h2 := (gradesL_mem _ (by rw [hl]; exact hpw) ((pc (maskTo B B.length) : Nat) : Int)).2 ⟨_, by rw [hl]; exact hMlt, by rw [h1]; decide, rfl⟩
    rw [← hall _ h2]; exact h2
  have hlen : gradesL (wedgesL p sq n B) = [((B.length : Nat) : Int)] := by
    have hs := gradesL_lt (wedgesL p sq n B)
    match hg : gradesL (wedgesL p sq n B), hs, hmem, hall with
    | [], _, hm, _ => cases hm
    | [a], _, _, ha => rw [ha a (by simp)]
    | a :: b :: t, hs, _, ha =>
      exfalso
      have h1 := ha a (by simp)
      have h2 := ha b (by simp)
      have h4 := (List.pairwise_cons.1 hs).1 b (by simp)
      omega
  unfold isBl
  rw [hlen, hsub]
  simp
end
end Go.Proofs.YtggigolkncckoaaGreat
namespace Go.Proofs.YtggigolkncckoaaGreat
open Go.RowKit
/-- A block of matrices. -/
def RdM (w : World) (g n : Nat) (p : Int) : Prop := ∀ k, k < n → ∃ (A : Option Addr) (r c m : Nat) (M : List (List Int)), w.cell? ⟨g, k, none⟩ = some (.slice A r c) ∧ RdII w A r M ∧ Tab p m M ∧ 0 < r ∧ r ≤ 16 ∧ 1 ≤ m ∧ m ≤ 16
theorem RdM.below {w w' : World} {g n : Nat} {p : Int} (h : RdM w g n p) (hb : Below w.heap.size w w') : RdM w' g n p := fun k hk => by
  obtain ⟨A, r, c, m, M, h1, h2, h3⟩ := h k hk
  exact ⟨A, r, c, m, M, (hb.cell (World.block_lt_of_cell? _ _ h1)).trans h1, h2.below hb, h3⟩
end Go.Proofs.YtggigolkncckoaaGreat
namespace Go.Proofs.YtggigolkncckoaaGreat
open Go.RowKit
def MkO (w0 w : World) (A : Option Addr) (n c : Nat) (xss : List (List Int)) : Prop := ∃ rows, Mk w0 w 24 A n c rows ∧ rows.length = xss.length ∧
  ∀ (k : Nat) (h : k < xss.length), ∃ A' c', rows[k]? = some (.slice A' xss[k].length c') ∧ Own w 0 2 A' xss[k].length c' (ints xss[k])
theorem MkII.o {w0 w : World} {A : Option Addr} {n c : Nat} {xss : List (List Int)} (h : MkII w0 w A n c xss) : MkO w0 w A n c xss := by
  obtain ⟨rows, hm, hn⟩ := h
  exact ⟨rows, hm, hn.len, fun k hk => by obtain ⟨A', c', e, ho⟩ := hn.row k hk; exact ⟨A', c', e, ho.base (Nat.zero_le _)⟩⟩
theorem MkO.rd {w0 w : World} {A : Option Addr} {n c : Nat} {xss : List (List Int)} (h : MkO w0 w A n c xss) : RdII w A n xss := by
  obtain ⟨rows, hm, hl, hk⟩ := h
  exact ⟨rows, hm.rd, hl, fun k hlt => by obtain ⟨A', c', e, ho⟩ := hk k hlt; exact ⟨A', c', e, ho.rd, ho.cap⟩⟩
theorem MkO.b {w0 w : World} {A : Option Addr} {n c : Nat} {xss : List (List Int)} (h : MkO w0 w A n c xss) : Below w0.heap.size w0 w := by
  obtain ⟨_, hm, _⟩ := h; exact hm.1
theorem MkO.below {w0 w w' : World} {A : Option Addr} {n c : Nat} {xss : List (List Int)} (h : MkO w0 w A n c xss) (hb : Below w.heap.size w w') : MkO w0 w' A n c xss := by
  obtain ⟨rows, hm, hl, hk⟩ := h
  exact ⟨rows, hm.below hb, hl, fun k hlt => by obtain ⟨A', c', e, ho⟩ := hk k hlt; exact ⟨A', c', e, ho.below hb⟩⟩
theorem MkO.after {w0 w1 w : World} {A : Option Addr} {n c : Nat} {xss : List (List Int)} (h : MkO w1 w A n c xss) (hb : Below w0.heap.size w0 w1) : MkO w0 w A n c xss := by
  obtain ⟨rows, hm, hl, hk⟩ := h
  exact ⟨rows, hm.after hb, hl, hk⟩
theorem MkO.ne_blk {w0 w : World} {A : Option Addr} {n c g : Nat} {xss : List (List Int)} {t : TypeId} {cs : Array Value} (h : MkO w0 w A n c xss) (hb : Blk w g t cs) (hE : 24 ≠ t) : some g ≠ (Value.slice A n c).ownBlock := by
  obtain ⟨rows, hm, _⟩ := h
  exact hm.2.ne_blk hb hE
end Go.Proofs.YtggigolkncckoaaGreat
namespace Go.Proofs.YtggigolkncckoaaGreat
/-- Rows none of which is a sum of multiples of others. -/
def Ind (p : Int) (n : Nat) (L : List (List Int)) : Prop := ∀ c : Nat → Int, (∀ q, q < n → (sumTo L.length fun i => c i * ent L i q) % p = 0) → ∀ i, i < L.length → c i % p = 0
section
variable {p : Int} {n : Nat}
theorem Red.ind {B : List (List Int)} (hR : Red n B) : Ind p n B := fun c hc i hi => by
  have h := hc _ (hR.lt i hi)
  rwa [sumTo_one (f := fun j => c j * ent B j (ld B i)) i hi (fun j hj hne => by rw [hR.zero i j hi hj hne, Int.mul_zero]), hR.one i hi, Int.mul_one] at h
/-- Leads that fill the first places. -/
theorem Red.fills {B : List (List Int)} (hR : Red n B) {N : Nat} (h : ∀ f, f < N → isLd B f = true) : N ≤ B.length := by
  have key : ∀ f, f < N → ∃ i, i < B.length ∧ ld B i = f ∧ f ≤ i := by
    intro f
    induction f with
    | zero => intro h0; obtain ⟨i, hi, e⟩ := isLd_iff.1 (h 0 h0); exact ⟨i, hi, e, Nat.zero_le _⟩
    | succ f ih =>
      intro hf
      obtain ⟨i, hi, e, hle⟩ := ih (by omega)
      obtain ⟨j, hj, e2⟩ := isLd_iff.1 (h (f + 1) hf)
      refine ⟨j, hj, e2, ?_⟩
      rcases Nat.lt_trichotomy i j with hl | hl | hl
      · omega
      · subst hl; omega
      · have := hR.mono j i hl hi; omega
  rcases Nat.eq_zero_or_pos N with rfl | hN
  · exact Nat.zero_le _
  · obtain ⟨i, hi, -, hle⟩ := key (N - 1) (by omega)
    omega
/-- Independent vectors that others make are no more than these. -/
theorem Ind.le (hP : isP p = true) {L M : List (List Int)} (hI : Ind p n L) (hS : InSp p n L M) : L.length ≤ M.length := by
  have hp : 2 ≤ p := by have := isP_ge hP; omega
  refine Classical.byContradiction fun hlt => ?_
  have hch : ∀ i, ∃ a : Nat → Int, i < L.length → ∀ q, q < n → ent L i q % p = (sumTo M.length fun j => a j * ent M j q) % p := fun i => by
    by_cases hi : i < L.length
    · obtain ⟨a, ha⟩ := hS i hi; exact ⟨a, fun _ => ha⟩
    · exact ⟨fun _ => 0, fun h => absurd h hi⟩
  obtain ⟨a, ha⟩ := Classical.axiomOfChoice hch
  obtain ⟨A, hA⟩ : ∃ A : List (List Int), A = tab M.length fun j => tab L.length fun i => a i j % p := ⟨_, rfl⟩
  have hAl : A.length = M.length := by rw [hA, tab_len]
  have hAT : Tab p L.length A := by
    rw [hA]
    exact Tab.tab fun j _ => ⟨tab_len _ _, NumsL.tab fun i _ => ⟨Int.emod_nonneg _ (by omega), Int.emod_lt_of_pos _ (by omega)⟩⟩
  have hAe : ∀ j i, j < M.length → i < L.length → ent A j i = a i j % p := fun j i hj hi => by
    unfold ent; rw [hA, tab_getD hj, tab_getD hi]
  have hR := basisL_red hP A hAT
  have hRl := (basisL_len (p := p) (by omega) A hAT).2
  have hf : ∃ f, f < L.length ∧ isLd (basisL p A) f = false := Classical.byContradiction fun hno => by
    have := hR.fills (N := L.length) fun f hf => by
      cases e : isLd (basisL p A) f
      · exact absurd ⟨f, hf, e⟩ hno
      · rfl
    omega
  obtain ⟨f, hf, hfl⟩ := hf
  have ho := (freeRow_orth (p := p) hR hf hfl).of_in (basisL_in hP A hAT).2
  obtain ⟨c, hc⟩ : ∃ c : Nat → Int, c = fun q => (freeRow p (basisL p A) L.length f).getD q 0 := ⟨_, rfl⟩
  have h0 := hI c (fun q hq => by
    have e1 : (sumTo L.length fun i => c i * ent L i q) % p = (sumTo L.length fun i => c i * sumTo M.length fun j => a i j * ent M j q) % p := sumTo_mod p fun i hi => cg_mul rfl (ha i hi q hq)
    rw [e1, sumTo_congr (g := fun i => sumTo M.length fun j => c i * (a i j * ent M j q)) fun i _ => (sumTo_mul _ _ _).symm, sumTo_comm]
    refine (sumTo_mod p (g := fun _ => 0) fun j hj => ?_).trans (by rw [sumTo_zero fun _ _ => rfl]; rfl)
    have h1 := ho j (by omega)
    have e2 : (sumTo L.length fun i => c i * (a i j * ent M j q)) = ent M j q * sumTo L.length fun i => a i j * c i := by
      rw [← sumTo_mul]; exact sumTo_congr fun i _ => by rw [← Int.mul_assoc, Int.mul_comm (ent M j q), Int.mul_comm (c i)]
    rw [e2]
    have e3 : (sumTo L.length fun i => a i j * c i) % p = (sumTo L.length fun q => ent A j q * (freeRow p (basisL p A) L.length f).getD q 0) % p := sumTo_mod p fun i hi => by
      rw [hAe j i hj hi, hc]; exact cg_mul (cg_self _ _).symm rfl
    exact (cg_mul rfl (e3.trans h1)).trans (by rw [Int.mul_zero])) f hf
  rw [hc] at h0
  simp only [freeRow_own (p := p) (B := basisL p A) hf] at h0
  rw [Int.emod_eq_of_lt (by omega) (by omega)] at h0
  exact absurd h0 (by decide)
theorem Ind.same (hP : isP p = true) {L M : List (List Int)} (hL : Ind p n L) (hM : Ind p n M) (h1 : InSp p n L M) (h2 : InSp p n M L) : L.length = M.length :=
  Nat.le_antisymm (hL.le hP h1) (hM.le hP h2)
/-- The reduced basis of independent vectors has as many. -/
theorem Ind.basis (hP : isP p = true) {L : List (List Int)} (hT : Tab p n L) (hL : Ind p n L) : (basisL p L).length = L.length :=
  (basisL_red hP L hT).ind.same hP hL (basisL_in hP L hT).1 (basisL_in hP L hT).2
theorem freeTo_count {B : List (List Int)} (hR : Red n B) : ∀ k, ∃ t, t ≤ B.length ∧ (∀ i, i < B.length → (ld B i < k ↔ i < t)) ∧ (freeTo p B n k).length + t = k := by
  intro k
  induction k with
  | zero => exact ⟨0, Nat.zero_le _, fun i _ => by simp, rfl⟩
  | succ k ih =>
    obtain ⟨t, h1, h2, h3⟩ := ih
    cases e : isLd B k with
    | true =>
      obtain ⟨i, hi, hk⟩ := isLd_iff.1 e
      have hit : i = t := by
        have a1 : ¬ i < t := fun h => by have := (h2 i hi).2 h; omega
        have a2 : ¬ t < i := fun h => by
          have b1 := hR.mono t i h hi
          have b2 := (h2 t (by omega)).1 (by omega)
          omega
        omega
      refine ⟨t + 1, by omega, fun j hj => ⟨fun h => ?_, fun h => ?_⟩, by rw [freeTo_skip e]; omega⟩
      · refine Classical.byContradiction fun hc => ?_
        have := hR.mono i j (by omega) hj
        omega
      · rcases Nat.lt_or_ge j t with h4 | h4
        · have := (h2 j hj).2 h4; omega
        · obtain rfl : j = i := by omega
          omega
    | false =>
      refine ⟨t, h1, fun j hj => ?_, by rw [freeTo_take e, List.length_append]; simp; omega⟩
      have hne : ld B j ≠ k := fun h => by rw [isLd_iff.2 ⟨j, hj, h⟩] at e; cases e
      rw [← h2 j hj]; omega
theorem freeTo_length {B : List (List Int)} (hR : Red n B) : (freeTo p B n n).length + B.length = n := by
  obtain ⟨t, h1, h2, h3⟩ := freeTo_count (p := p) hR n
  have : t = B.length := by
    refine Nat.le_antisymm h1 (Nat.le_of_not_lt fun h => ?_)
    have := (h2 t h).1 (hR.lt t h)
    omega
  omega
theorem freeTo_row {B : List (List Int)} {r : Nat} (hr : r < (freeTo p B n n).length) : ∃ f, f < n ∧ isLd B f = false ∧ (freeTo p B n n).getD r [] = freeRow p B n f := by
  obtain ⟨f, h1, h2, h3⟩ := freeTo_mem.1 (getD_mem [] hr)
  exact ⟨f, h1, h2, h3⟩
theorem freeTo_inj {B : List (List Int)} : ∀ k, ∀ r s, r < s → s < (freeTo p B n k).length → k ≤ n → ∃ f, f < k ∧ isLd B f = false ∧ (freeTo p B n k).getD s [] = freeRow p B n f ∧ ∃ g, g < f ∧ isLd B g = false ∧ (freeTo p B n k).getD r [] = freeRow p B n g := by
  intro k
  induction k with
  | zero => intro r s _ hs; rw [freeTo_zero] at hs; simp at hs
  | succ k ih =>
    intro r s hrs hs hk
    cases e : isLd B k with
    | true =>
      rw [freeTo_skip e] at hs ⊢
      obtain ⟨f, h1, h2⟩ := ih r s hrs hs (by omega)
      exact ⟨f, by omega, h2⟩
    | false =>
      rw [freeTo_take e] at hs ⊢
      rw [List.length_append] at hs
      simp only [List.length_cons, List.length_nil] at hs
      rcases Nat.lt_or_ge s (freeTo p B n k).length with h4 | h4
      · rw [getD_app_left [] _ h4, getD_app_left [] _ (show r < _ by omega)]
        obtain ⟨f, h1, h2⟩ := ih r s hrs h4 (by omega)
        exact ⟨f, by omega, h2⟩
      · obtain ⟨z, hz⟩ : ∃ z, z = (freeTo p B n k).length := ⟨_, rfl⟩
        obtain rfl : s = z := by omega
        have h5 : r < (freeTo p B n k).length := by omega
        obtain ⟨g, h6, h7, h8⟩ := freeTo_mem.1 (getD_mem [] h5)
        refine ⟨k, by omega, e, ?_, g, h6, h7, ?_⟩
        · have := getD_app_right [] (freeTo p B n k) [freeRow p B n k] 0
          rw [Nat.add_zero, ← hz] at this
          rw [this]; rfl
        · rw [getD_app_left [] _ h5, h8]
theorem freeTo_ind {B : List (List Int)} (_hR : Red n B) : Ind p n (freeTo p B n n) := fun c hc i hi => by
  obtain ⟨f, h1, h2, h3⟩ := freeTo_row hi
  have h := hc f h1
  rwa [sumTo_one (f := fun j => c j * ent (freeTo p B n n) j f) i hi (fun j hj hne => by
    have : ent (freeTo p B n n) j f = 0 := by
      unfold ent
      rcases Nat.lt_or_ge j i with hl | hl
      · obtain ⟨f', a1, a2, a3, g, a4, a5, a6⟩ := freeTo_inj (p := p) (B := B) n j i hl hi (Nat.le_refl _)
        have : f' = f := by
          refine Classical.byContradiction fun hn => ?_
          have b1 := freeRow_own (p := p) (B := B) a1
          have b2 := freeRow_no (p := p) (B := B) (f := f) a1 hn a2
          rw [← a3, h3, b2] at b1
          exact absurd b1 (by decide)
        rw [a6, freeRow_no h1 (by omega) h2]
      · obtain ⟨f', a1, a2, a3, g, a4, a5, a6⟩ := freeTo_inj (p := p) (B := B) n i j (by omega) hj (Nat.le_refl _)
        have : g = f := by
          refine Classical.byContradiction fun hn => ?_
          have b1 := freeRow_own (p := p) (B := B) (n := n) (f := g) (by omega)
          have b2 := freeRow_no (p := p) (B := B) (n := n) (f := f) (k := g) (by omega) hn a5
          rw [← a6, h3, b2] at b1
          exact absurd b1 (by decide)
        rw [a3, freeRow_no h1 (by omega) h2]
    rw [this, Int.mul_zero]), show ent (freeTo p B n n) i f = 1 by unfold ent; rw [h3, freeRow_own h1], Int.mul_one] at h
/-- Kernel and reduced basis have together as many vectors as there are columns. -/
theorem kernL_dim (hP : isP p = true) {m : List (List Int)} (hT : Tab p n m) : (kernL p m n).length + (basisL p m).length = n := by
  have hp : 2 ≤ p := by have := isP_ge hP; omega
  have hR := basisL_red hP m hT
  unfold kernL
  rw [(freeTo_ind hR).basis hP (freeTo_tab hp _ _ _)]
  exact freeTo_length hR
theorem ent_trans {m : List (List Int)} (hT : Tab p n m) (h0 : 0 < m.length) {i q : Nat} (hi : i < m.length) (hq : q < n) : ent (transL m) q i = ent m i q := by
  unfold ent
  rw [transL_row hT h0 hq, tab_getD hi]; rfl
/-- Columns are made by no more than rows are. -/
theorem rank_cols (hP : isP p = true) {m : List (List Int)} (hT : Tab p n m) (h0 : 0 < m.length) : (basisL p (transL m)).length ≤ (basisL p m).length := by
  have hp : 2 ≤ p := by have := isP_ge hP; omega
  have hTT := transL_tab (p := p) (by omega) hT
  obtain ⟨R, hR⟩ : ∃ R, R = basisL p m := ⟨_, rfl⟩
  have hS := (basisL_in hP m hT).2
  rw [← hR] at hS ⊢
  have hch : ∀ i, ∃ a : Nat → Int, i < m.length → ∀ q, q < n → ent m i q % p = (sumTo R.length fun j => a j * ent R j q) % p := fun i => by
    by_cases hi : i < m.length
    · obtain ⟨a, ha⟩ := hS i hi; exact ⟨a, fun _ => ha⟩
    · exact ⟨fun _ => 0, fun h => absurd h hi⟩
  obtain ⟨a, ha⟩ := Classical.axiomOfChoice hch
  obtain ⟨A, hA⟩ : ∃ A : List (List Int), A = tab R.length fun j => tab m.length fun i => a i j % p := ⟨_, rfl⟩
  have hAl : A.length = R.length := by rw [hA, tab_len]
  have hAe : ∀ j i, j < R.length → i < m.length → ent A j i = a i j % p := fun j i hj hi => by
    unfold ent; rw [hA, tab_getD hj, tab_getD hi]
  rw [← hAl]
  refine (basisL_red hP _ hTT).ind.le hP ((basisL_in hP _ hTT).1.trans fun q hq => ⟨fun j => ent R j q, fun i hi => ?_⟩)
  rw [transL_len hT h0] at hq
  show ent (transL m) q i % p = _
  rw [ent_trans hT h0 hi hq, ha i hi q hq, hAl]
  exact sumTo_mod p fun j hj => by rw [hAe j i hj hi, Int.mul_comm]; exact cg_mul rfl (cg_self _ _).symm
theorem trans_trans {m : List (List Int)} (hT : Tab p n m) (h0 : 0 < m.length) (hn : 0 < n) (hp : 0 < p) : transL (transL m) = m := by
  have hTT := transL_tab hp hT
  have hl := transL_len hT h0
  refine list_ext_getD [] (by rw [transL_len hTT (by omega)]) fun i hi => ?_
  rw [transL_len hTT (by omega)] at hi
  rw [transL_row hTT (by omega) hi, hl]
  refine list_ext_getD 0 (by rw [tab_len, (hT.row hi).1]) fun q hq => ?_
  rw [tab_len] at hq
  rw [tab_getD hq, ent_trans hT h0 hi hq]; rfl
/-- Rows and columns have the same rank. -/
theorem rank_trans (hP : isP p = true) {m : List (List Int)} (hT : Tab p n m) (h0 : 0 < m.length) (hn : 0 < n) : (basisL p (transL m)).length = (basisL p m).length := by
  have hp : 2 ≤ p := by have := isP_ge hP; omega
  refine Nat.le_antisymm (rank_cols hP hT h0) ?_
  have hTT := transL_tab (p := p) (by omega) hT
  have h := rank_cols hP hTT (by rw [transL_len hT h0]; exact hn)
  rwa [trans_trans hT h0 hn (by omega)] at h
/-- What two lists make together and what they make both. -/
theorem dim_common (hP : isP p = true) {a b : List (List Int)} (ha : Tab p n a) (hb : Tab p n b) (hn : 0 < n) (ia : Ind p n a) (ib : Ind p n b) :
    a.length + b.length = (basisL p (a ++ b)).length + (comL p n a b).length := by
  have hp : 2 ≤ p := by have := isP_ge hP; omega
  have hcom : (basisL p (commonL p a b)).length = (comL p n a b).length := by
    rw [common_same hP ha hb]; unfold comL
    rw [basisL_of_red hP (kernL_red hP _ n) (kernL_tab hp _ n)]
  rw [← hcom]
  unfold commonL
  by_cases hz : a.length = 0 ∨ b.length = 0
  · rw [if_pos hz, basisL_nil]
    rcases hz with hz | hz
    · obtain rfl := List.eq_nil_of_length_eq_zero hz
      rw [List.nil_append, ib.basis hP hb]; simp
    · obtain rfl := List.eq_nil_of_length_eq_zero hz
      rw [List.append_nil, ia.basis hP ha]
  · rw [if_neg hz]
    have h0 : 0 < a.length := by omega
    have hab := ha.append hb
    have hl : (a ++ b).length = a.length + b.length := List.length_append
    have h0' : 0 < (a ++ b).length := by omega
    have hTT := transL_tab (p := p) (by omega) hab
    rw [hl] at hTT
    obtain ⟨K, hK⟩ : ∃ K, K = kernL p (transL (a ++ b)) (a.length + b.length) := ⟨_, rfl⟩
    have hKd := kernL_dim hP hTT
    rw [rank_trans hP hab h0' hn, ← hK] at hKd
    have hKR : Red (a.length + b.length) K := by rw [hK]; exact kernL_red hP _ _
    rw [← hK]
    have hOT := outL_tab (p := p) (n := n) (by omega) ha h0 K
    have hlen : (outL p a K).length = K.length := by unfold outL; rw [List.length_map]
    have hrow : ∀ k q, k < K.length → q < n → ent (outL p a K) k q % p = (sumTo a.length fun i => ent a i q * ent K k i) % p := fun k q hk hq => by
      have : (outL p a K).getD k [] = applyL p (transL a) ((K.getD k []).take a.length) := by
        rw [getD_of_lt [] (by omega), getD_of_lt [] hk]; unfold outL; rw [List.getElem_map]
      unfold ent
      rw [this, apply_at ha h0 _ hq, cg_self]
      congr 1
      exact sumTo_congr fun i hi => by rw [take_getD 0 _ hi]; rfl
    have e1 : ∀ i q, i < a.length → ent (a ++ b) i q = ent a i q := fun i q hi => by unfold ent; rw [getD_app_left [] _ hi]
    have e2 : ∀ i q, ent (a ++ b) (a.length + i) q = ent b i q := fun i q => by unfold ent; rw [getD_app_right]
    have split : ∀ (z : Nat → Int) (q : Nat) k, sumTo (a.length + k) (fun i => ent (a ++ b) i q * z i) = sumTo a.length (fun i => ent a i q * z i) + sumTo k (fun i => ent b i q * z (a.length + i)) := by
      intro z q k
      induction k with
      | zero => exact (sumTo_congr fun i hi => by rw [e1 i q hi]).trans (by simp [sumTo])
      | succ k ih => rw [← Nat.add_assoc, sumTo_succ, ih, sumTo_succ, e2]; omega
    have horth : ∀ k, k < K.length → ∀ q, q < n → (sumTo a.length (fun i => ent a i q * ent K k i) + sumTo b.length (fun i => ent b i q * ent K k (a.length + i))) % p = 0 := fun k hk q hq => by
      have h := (kernL_sp hP hTT).1 (by rw [← hK]; exact Sp.row hk) q (by rw [transL_len hab h0']; exact hq)
      rw [← split, ← h]
      congr 1
      exact sumTo_congr fun i hi => by rw [ent_trans hab h0' (by omega) hq]
    have hI : Ind p n (outL p a K) := fun c hc => by
      rw [hlen] at hc ⊢
      have swap : ∀ (x : List (List Int)) (o q : Nat), (sumTo K.length fun k => c k * sumTo x.length fun i => ent x i q * ent K k (o + i)) = sumTo x.length fun i => (sumTo K.length fun k => c k * ent K k (o + i)) * ent x i q := fun x o q => by
        rw [sumTo_congr (g := fun k => sumTo x.length fun i => ent x i q * (c k * ent K k (o + i))) fun k _ => by
          rw [← sumTo_mul]; exact sumTo_congr fun i _ => by rw [← Int.mul_assoc, Int.mul_comm (c k), Int.mul_assoc], sumTo_comm]
        exact sumTo_congr fun i _ => by rw [sumTo_mul, Int.mul_comm]
      have hA : ∀ q, q < n → (sumTo K.length fun k => c k * sumTo a.length fun i => ent a i q * ent K k i) % p = 0 := fun q hq => by
        rw [← hc q hq]
        exact sumTo_mod p fun k hk => cg_mul rfl (hrow k q hk hq).symm
      have hB : ∀ q, q < n → (sumTo K.length fun k => c k * sumTo b.length fun i => ent b i q * ent K k (a.length + i)) % p = 0 := fun q hq => by
        have h1 : (sumTo K.length fun k => c k * (sumTo a.length (fun i => ent a i q * ent K k i) + sumTo b.length (fun i => ent b i q * ent K k (a.length + i)))) % p = 0 :=
          (sumTo_mod p (g := fun _ => 0) fun k hk => (cg_mul rfl (horth k hk q hq)).trans (by rw [Int.mul_zero])).trans (by rw [sumTo_zero fun _ _ => rfl]; rfl)
        rw [sumTo_congr (g := fun k => c k * sumTo a.length (fun i => ent a i q * ent K k i) + c k * sumTo b.length (fun i => ent b i q * ent K k (a.length + i))) fun k _ => Int.mul_add _ _ _, sumTo_add] at h1
        have h2 := hA q hq
        obtain ⟨u, hu⟩ := cg_wit.1 (h1.trans (Int.zero_emod p).symm)
        obtain ⟨v, hv⟩ := cg_wit.1 (h2.trans (Int.zero_emod p).symm)
        refine (cg_wit.2 ⟨u - v, ?_⟩).trans (Int.zero_emod p)
        rw [Int.mul_sub]; omega
      have hAz := ia (fun i => sumTo K.length fun k => c k * ent K k i) fun q hq => by
        have := hA q hq
        have h3 := swap a 0 q
        simp only [Nat.zero_add] at h3
        rwa [h3] at this
      have hBz := ib (fun i => sumTo K.length fun k => c k * ent K k (a.length + i)) fun q hq => by
        have := hB q hq
        rwa [swap b a.length q] at this
      refine hKR.ind c fun q hq => ?_
      rcases Nat.lt_or_ge q a.length with h4 | h4
      · exact hAz q h4
      · have := hBz (q - a.length) (by omega)
        rwa [show a.length + (q - a.length) = q by omega] at this
    have hbb := basisL_of_red hP (basisL_red hP _ hOT) (basisL_tab (by omega) _ hOT)
    have := hI.basis hP hOT
    rw [hbb]
    omega
end
end Go.Proofs.YtggigolkncckoaaGreat
namespace Go.Proofs.YtggigolkncckoaaGreat
open Go.RowKit
theorem Ind.snoc {p : Int} {n : Nat} (hP : isP p = true) {B : List (List Int)} {v : List Int} (hI : Ind p n B) (h : ¬ Sp p n B (fun q => v.getD q 0)) : Ind p n (B ++ [v]) := fun c hc => by
  have hsum : ∀ q, q < n → (sumTo B.length (fun i => c i * ent B i q) + c B.length * v.getD q 0) % p = 0 := fun q hq => by
    have h1 := hc q hq
    rw [List.length_append, List.length_singleton, sumTo_succ] at h1
    refine Eq.trans ?_ h1
    congr 1
    congr 1
    · refine sumTo_congr fun i hi => ?_
      unfold ent; rw [getD_app_left [] _ hi]
    · unfold ent
      have e9 : (B ++ [v]).getD B.length [] = v := by
        rw [List.getD_eq_getElem?_getD, List.getElem?_append_right (Nat.le_refl _)]
        simp
      rw [e9]
  have h0 : c B.length % p = 0 := Classical.byContradiction fun hne => h (by
    refine ⟨fun i => -(invF p (c B.length % p)) * c i, fun q hq => ?_⟩
    have hi := inv_mod hP hne
    obtain ⟨t, ht⟩ := cg_wit.1 ((hsum q hq).trans (Int.zero_emod p).symm)
    have h3 := isP_ge hP
    obtain ⟨s, hs⟩ := cg_wit.1 (hi.trans (Int.emod_eq_of_lt (a := 1) (by omega) (by omega)).symm)
    have e1 : (sumTo B.length fun i => -(invF p (c B.length % p)) * c i * ent B i q) = -(invF p (c B.length % p)) * sumTo B.length (fun i => c i * ent B i q) := by
      rw [← sumTo_mul]
      exact sumTo_congr fun i _ => Int.mul_assoc _ _ _
    rw [e1]
    obtain ⟨S, hS⟩ : ∃ S, S = sumTo B.length (fun i => c i * ent B i q) := ⟨_, rfl⟩
    obtain ⟨I, hI⟩ : ∃ I, I = invF p (c B.length % p) := ⟨_, rfl⟩
    obtain ⟨C, hC⟩ : ∃ C, C = c B.length := ⟨_, rfl⟩
    obtain ⟨V, hV⟩ : ∃ V, V = v.getD q 0 := ⟨_, rfl⟩
    rw [← hI, ← hC] at hs
    rw [← hS, ← hC, ← hV] at ht
    show v.getD q 0 % p = _
    rw [← hV, ← hI, ← hS]
    refine cg_wit.2 ⟨I * t - s * V, ?_⟩
    have e2 : S = p * t - C * V := by omega
    rw [e2]
    clear e1 e2 ht hi hsum hc
    grind)
  have h1 : ∀ i, i < B.length → c i % p = 0 := hI c fun q hq => by
    have h2 := hsum q hq
    obtain ⟨t, ht⟩ := cg_wit.1 (h0.trans (Int.zero_emod p).symm)
    rw [ht] at h2
    obtain ⟨S, hS⟩ : ∃ S, S = sumTo B.length (fun i => c i * ent B i q) := ⟨_, rfl⟩
    rw [← hS] at h2 ⊢
    obtain ⟨s, hs⟩ := cg_wit.1 (h2.trans (Int.zero_emod p).symm)
    exact (cg_wit.2 ⟨s - t * v.getD q 0, by grind⟩).trans (Int.zero_emod p)
  intro i hi
  rw [List.length_append, List.length_singleton] at hi
  rcases Nat.lt_or_ge i B.length with h2 | h2
  · exact h1 i h2
  · obtain rfl : i = B.length := by omega
    exact h0
end Go.Proofs.YtggigolkncckoaaGreat
namespace Go.Proofs.YtggigolkncckoaaGreat
theorem zeroL_iff (xs : List Int) : zeroL xs = true ↔ ∀ y ∈ xs, y = 0 := by
  unfold zeroL
  rw [beq_iff_eq]
  constructor
  · intro h y hy
    obtain ⟨i, hi, rfl⟩ := List.getElem_of_mem hy
    have := leadL_before xs i (by omega)
    rwa [getD_of_lt 0 hi] at this
  · intro h
    refine Classical.byContradiction fun hne => ?_
    have hlt : leadL xs < xs.length := by have := leadL_le xs; omega
    exact leadL_at xs hlt (h _ (getD_mem 0 hlt))
section
variable {p : Int} {n : Nat}
/-- A vector lies in the subspace of a multivector when their outer product is 0. -/
theorem contains_iff {sq : List Int} (hn : sq.length = n) (h0 : 0 < n) (hP : isP p = true) {xs v : List Int} (hl : xs.length = pw n) (hx : NumsL p xs) (hv : NumsL p v) : zeroL (wedgeL p sq (vecTo n v n) xs) = true ↔ Sp p n (subL p sq n xs) fun q => v.getD q 0 := by
  have h3 := isP_ge hP
  have hp : 0 < p := by omega
  obtain ⟨x, rfl⟩ : ∃ x : Cl p (zs n), x.l = xs := ⟨⟨xs, hl.trans (by rw [zs_len]), hx, hp⟩, rfl⟩
  have e : vecTo n v n = (Cl.vec hp v : Cl p (zs n)).l := by rw [Cl.vec_l hp hv, zs_len]
  rw [sub_sp hn h0 hp hP x v, zeroL_iff, e, wedge_cl' hn]
  constructor
  · intro h
    refine Cl.same fun m hm => ?_
    rw [Cl.zero_co hp hm]
    have : (Cl.vec hp v * x : Cl p (zs n)).co m = 0 := h _ (getD_mem 0 (by rw [Cl.len]; exact hm))
    rw [this, Int.zero_emod]
  · intro h
    rw [h]; exact Cl.zero_all hp
end
section
variable {P : Int} {sq xs v : List Int}
end
end Go.Proofs.YtggigolkncckoaaGreat
namespace Go.Proofs.YtggigolkncckoaaGreat
open Go.RowKit
theorem Nest.join {w : World} {B : Nat} {rows rows' : List Value} {xss yss : List (List Int)} (h : Nest w B rows xss) (h' : Nest w B rows' yss)
    (hap : ∀ i j g : Nat, (rows[i]?).bind Value.ownBlock = some g → (rows'[j]?).bind Value.ownBlock ≠ some g) : Nest w B (rows ++ rows') (xss ++ yss) := by
  have hl := h.len
  have hl' := h'.len
  refine ⟨by simp [hl, hl'], fun k hk => ?_, fun i j g hij hi => ?_⟩
  · by_cases hlt : k < xss.length
    · obtain ⟨A, c, e, ho⟩ := h.row k hlt
      rw [List.getElem_append_left hlt]
      exact ⟨A, c, by rw [List.getElem?_append_left (by omega)]; exact e, ho⟩
    · have hk2 : k - xss.length < yss.length := by rw [List.length_append] at hk; omega
      obtain ⟨A, c, e, ho⟩ := h'.row (k - xss.length) hk2
      rw [List.getElem_append_right (by omega)]
      exact ⟨A, c, by rw [List.getElem?_append_right (by omega), hl]; exact e, ho⟩
  · by_cases hj : j < rows.length
    · rw [List.getElem?_append_left (by omega)] at hi
      rw [List.getElem?_append_left hj]
      exact h.apart i j g hij hi
    · rw [List.getElem?_append_right (by omega)]
      by_cases hil : i < rows.length
      · rw [List.getElem?_append_left hil] at hi
        exact hap i _ g hi
      · rw [List.getElem?_append_right (by omega)] at hi
        exact h'.apart _ _ g (by omega) hi
/-- Two lists of lists, no rows of which lie in one block; the first one is the call's own. -/
def MkII2 (w0 w : World) (A : Option Addr) (n c : Nat) (xss : List (List Int)) (B : Option Addr) (m : Nat) (yss : List (List Int)) : Prop :=
  ∃ rows rows', Mk w0 w 24 A n c rows ∧ Rd w B m rows' ∧ rows.length = xss.length ∧ Nest w w0.heap.size (rows ++ rows') (xss ++ yss)
theorem MkII2.of_first {w0 w1 w2 : World} {A B : Option Addr} {n c m d : Nat} {xss yss : List (List Int)} (h : MkII w0 w1 A n c xss) (h' : MkII w1 w2 B m d yss) : MkII2 w0 w2 A n c xss B m yss := by
  obtain ⟨rows, hm, hn⟩ := h
  obtain ⟨rows', hm', hn'⟩ := h'
  have hs := hm.1.size
  refine ⟨rows, rows', hm.below hm'.1, hm'.rd, hn.len, Nest.join (hn.below hm'.1) (hn'.base hs) fun i j g hi hj => ?_⟩
  have := (hn.block i g hi).2
  have := (hn'.block j g hj).1
  omega
theorem MkII2.below {w0 w w' : World} {A B : Option Addr} {n c m : Nat} {xss yss : List (List Int)} (h : MkII2 w0 w A n c xss B m yss) (hb : Below w.heap.size w w') : MkII2 w0 w' A n c xss B m yss := by
  obtain ⟨rows, rows', h1, h2, h3, h4⟩ := h
  exact ⟨rows, rows', h1.below hb, h2.below hb, h3, h4.below hb⟩
theorem MkII2.ne_blk {w0 w : World} {A B : Option Addr} {n c m g : Nat} {xss yss : List (List Int)} {t : TypeId} {cs : Array Value} (h : MkII2 w0 w A n c xss B m yss) (hb : Blk w g t cs) (hE : 24 ≠ t) : some g ≠ (Value.slice A n c).ownBlock := by
  obtain ⟨rows, _, hm, _⟩ := h
  exact hm.2.ne_blk hb hE
theorem MkII2.grown_below {w0 w w' : World} {A B : Option Addr} {n c m : Nat} {xss yss : List (List Int)} {X : Nat} {a : World} (h : MkII2 w0 w A n c xss B m yss) (hg : w.grownBy w' (Value.slice A n c).ownBlock) (hb : Below X a w) (hX : X ≤ w0.heap.size) : Below X a w' := by
  obtain ⟨rows, _, hm, _⟩ := h
  exact (hm.2.base hX).grown_below hg hb (Nat.le_trans hX hm.1.size)
/-- The second list is appended to the first one. -/
theorem wp_appRows {o : Oper} {a : Act} {K : Act → World → Prop} {Q : Exit → Act → World → Prop} (w0 wr : World)
    (s x : Operand) (ho : o.op = .call { callee := .builtin .append, args := #[s, x], argTypes := #[44, 44] })
    (A : Option Addr) (n c : Nat) (xss : List (List Int)) (B : Option Addr) (m d : Nat) (yss : List (List Int)) (hM : MkII2 w0 wr A n c xss B m yss) (hn : n + m ≤ 1099511627775)
    (hs : a.eval s = .slice A n c) (hx : a.eval x = .slice B m d)
    (h : ∀ A' c' w', MkII w0 w' A' (n + m) c' (xss ++ yss) → wr.grownBy w' (Value.slice A n c).ownBlock → K (a.put o.dst (.slice A' (n + m) c')) w') : o.wp Tryz.prog a wr K Q := by
  obtain ⟨rows, rows', hm, hr, hrl, hnest⟩ := hM
  obtain ⟨i, hi, h1, h2, h3⟩ := info_parts info_s
  obtain ⟨b1, b2⟩ := bound_of (show n + m - 1 ≤ 1099511627776 by omega)
  have hr1 : rows'.length = m := hr.1
  have hone : ∀ u ∈ rows', u.oneCell' = true := fun u hu => by
    obtain ⟨k, hk, rfl⟩ := List.getElem_of_mem hu
    have hkl : rows.length + k < (xss ++ yss).length := by rw [← hnest.len, List.length_append]; omega
    obtain ⟨A2, c2, e, _⟩ := hnest.row (rows.length + k) hkl
    rw [List.getElem?_append_right (by omega), Nat.add_sub_cancel_left, List.getElem?_eq_getElem hk] at e
    rw [Option.some.inj e]; rfl
  have key : ∃ A' c' w', (Builtin.append_ #[44, 44] o.type #[.slice A n c, .slice B m d]).run Tryz.prog wr = .ok (.slice A' (n + m) c') w' ∧ Own w' w0.heap.size 24 A' (n + m) c' (rows ++ rows') ∧ wr.grownBy w' (Value.slice A n c).ownBlock := by
    by_cases hm0 : m = 0
    · subst hm0
      obtain rfl : rows' = [] := List.eq_nil_of_length_eq_zero hr1
      have hsrc : Src Tryz.prog i.size 44 (.slice B 0 d) 0 [] wr := by
        cases B with
        | none => exact Src.ofNil wr Tryz.underlying44 d
        | some ad => exact Src.ofSlice wr Tryz.underlying44 ad 0 d [] (by simp) (fun j u hu => by simp at hu) (fun u hu => by simp at hu)
      refine ⟨A, c, wr, run_append_nothing wr _ _ _ _ i Tryz.underlying44 hi A n c hm.2.cap _ hsrc, ?_, World.grownBy.refl _ _⟩
      rw [List.append_nil]
      exact hm.2
    · obtain ⟨g, o', rfl, hc⟩ := hr.2 (by omega)
      obtain ⟨g', cap, w', hrun, hown, hg, _, _⟩ := run_append_lies (P := Tryz.prog) (w := wr) 44 o.type w0.heap.size 24 i (.slice none 0 0) 1 24 Tryz.underlying44 hi h1 h2 h3 rfl (by omega) (.slice A n c) n rows hm.2 ⟨g, o', none⟩ m d rows' (by omega)
        (fun j u hu => by rw [Addr.add_lit]; exact hc j u hu) hone (by omega) (by simp only [maxLen]; omega) (by omega) hm.1.size _ rfl
      exact ⟨_, _, _, hrun, hown, hg⟩
  obtain ⟨A', c', w', hrun, hown, hg⟩ := key
  unfold Oper.wp execOp
  simp only [ho, resolve, invoke, builtin, Sem.run_bind, Sem.run_pure, Result.andThen_ok, List.map_toArray, List.map_cons, List.map_nil, hs, hx, hrun]
  exact h A' c' w' ⟨rows ++ rows', ⟨hm.1.grown hg hm.1.size (fun k hk => (hm.2.lt k hk).1), hown⟩, hnest.grown hm.2 (by decide) hg⟩ hg
end Go.Proofs.YtggigolkncckoaaGreat
namespace Go.Proofs.YtggigolkncckoaaGreat
open Go.RowKit
section
variable {P : Program} {ops : Array Oper} {Q : Exit → Act → World → Prop}
/-- Those whose values are good still when operation j is done (C: what each uses up). -/
def availL (R C : List (List Nat)) (m j : Nat) : List Nat := (R.getD j []).filter fun i => (List.range m).all fun k => !((C.getD k []).contains i) || k == j || (R.getD k []).contains j
/-- .. and at the end of the first m. -/
def endL (C : List (List Nat)) (m : Nat) : List Nat := (List.range m).filter fun i => (List.range m).all fun k => !((C.getD k []).contains i)
/-- Below what operation j leaves all as it was. -/
def lim (C : List (List Nat)) (B : Nat) (j : Nat) (w : World) : Nat := if (C.getD j []).isEmpty then w.heap.size else B
theorem not_contains {L : List Nat} {i : Nat} : (!(L.contains i)) = true ↔ i ∉ L := by
  rw [Bool.not_eq_true', ← Bool.not_eq_true, List.contains_iff_mem]
theorem avail_spec {R C : List (List Nat)} {m j i : Nat} : i ∈ availL R C m j ↔ i ∈ R.getD j [] ∧ ∀ k, k < m → i ∈ C.getD k [] → k = j ∨ j ∈ R.getD k [] := by
  unfold availL
  rw [List.mem_filter, List.all_eq_true]
  refine and_congr_right fun _ => ⟨fun h k hk hi => ?_, fun h k hk => ?_⟩
  · have h1 := h k (List.mem_range.2 hk)
    rw [Bool.or_eq_true, Bool.or_eq_true, not_contains, beq_iff_eq, List.contains_iff_mem] at h1
    rcases h1 with (h1 | h1) | h1
    · exact absurd hi h1
    · exact .inl h1
    · exact .inr h1
  · rw [Bool.or_eq_true, Bool.or_eq_true, not_contains, beq_iff_eq, List.contains_iff_mem]
    by_cases hi : i ∈ C.getD k []
    · rcases h k (List.mem_range.1 hk) hi with h1 | h1
      · exact .inl (.inr h1)
      · exact .inr h1
    · exact .inl (.inl hi)
theorem end_spec {C : List (List Nat)} {m i : Nat} : i ∈ endL C m ↔ i < m ∧ ∀ k, k < m → i ∉ C.getD k [] := by
  unfold endL
  rw [List.mem_filter, List.all_eq_true, List.mem_range]
  exact and_congr_right fun _ => ⟨fun h k hk => not_contains.1 (h k (List.mem_range.2 hk)), fun h k hk => not_contains.2 (h k (List.mem_range.1 hk))⟩
/-- What is to be shown of operation j. -/
def ObD (P : Program) (ops : Array Oper) (S : World → Prop) (R C : List (List Nat)) (B m : Nat) (V : (Nat → Value) → List VP) (x : Nat → Value) (a0 : Act) (j : Nat) : Prop :=
  ∀ w, S w → (∀ i ∈ availL R C m j, ((V x).getD i VAny).p (x i) w) →
    wpOp P ops NoWay j (fun a' w' => ∃ v, (∀ d, dstOf ops j = some d → a'.tmps[d]? = some v) ∧ a'.defers = a0.defers ∧ ((V x).getD j VAny).p v w' ∧ Below (lim C B j w) w w') (putS ops x a0 j) w
theorem tasks_goD {m B : Nat} {R C : List (List Nat)} {V : (Nat → Value) → List VP} {S : World → Prop} {a0 : Act} (hok : tasksOk ops m a0.tmps.size R = true)
    (hdep : ∀ x x' j, (∀ i ∈ R.getD j [], x i = x' i) → (V x).getD j VAny = (V x').getD j VAny) (hweak : ∀ i, i < m → (C.getD i []).isEmpty = false → ∀ k, k < m → k ≠ i → i ∉ R.getD k [] → k ∉ C.getD i [] → ∀ x v w w', ((V x).getD k VAny).p v w → Below B w w' → ((V x).getD k VAny).p v w') (hSt : ∀ j w w', S w → Below (lim C B j w) w w' → S w') (hob : ∀ x j, j < m → ObD P ops S R C B m V x a0 j)
    (hend : ∀ x w', S w' → (∀ i ∈ endL C m, ((V x).getD i VAny).p (x i) w') → wpAny P .any ops Q (ops.size - m) (listedTo ops.size m) (putS ops x a0 m) w') :
    ∀ (c : Nat) (U : List Nat) (listed : Array Bool) (w : World) (x : Nat → Value), U.length = c → U.Nodup → (∀ i, i ∈ U ↔ i < m ∧ listed.getD i false = false) → listed.size = ops.size →
      (∀ i, m ≤ i → i < ops.size → listed.getD i false = false) → (∀ (j : Nat) (o : Oper), ops[j]? = some o → listed.getD j false = true → ∀ e ∈ o.after, Region.binds .any e = true → listed.getD e.on false = true) →
      S w → (∀ i, i < m → listed.getD i false = true → (∀ j, j < m → i ∈ C.getD j [] → listed.getD j false = false) → ((V x).getD i VAny).p (x i) w) → wpAny P .any ops Q (ops.size - m + c) listed (putD ops (fun i => listed.getD i false) x a0 m) w := by
  obtain ⟨hmn, hspec, htail⟩ := tasks_spec hok
  have hsel : Region.noSelect ops = true := by unfold tasksOk at hok; simp only [Bool.and_eq_true] at hok; exact hok.1.1
  intro c
  induction c with
  | zero =>
    intro U listed w x hU hnd hmem hsz hun hcl hS hV
    obtain rfl : U = [] := List.eq_nil_of_length_eq_zero hU
    have hall : ∀ i, i < m → listed.getD i false = true := fun i hi => by
      cases h : listed.getD i false
      · exact absurd ((hmem i).2 ⟨hi, h⟩) (by simp)
      · rfl
    have hl : listed = listedTo ops.size m := by
      apply Array.ext
      · simp [listedTo, hsz]
      · intro i h1 h2
        have e : listed.getD i false = listed[i] := by simp [Array.getD, h1]
        by_cases hi : i < m
        · have := hall i hi
          rw [e] at this
          simp [listedTo, this, hi]
        · have := hun i (by omega) (by omega)
          rw [e] at this
          simp [listedTo, this, hi]
    rw [Nat.add_zero, putD_congr (ops := ops) _ (fun _ => true) x x a0 m (fun i hi => ⟨hall i hi, fun _ => rfl⟩), hl]
    exact hend x w hS (fun i hi => hV i (end_spec.1 hi).1 (hall i (end_spec.1 hi).1) (fun j hj hc => absurd hc ((end_spec.1 hi).2 j hj)))
  | succ c ih =>
    intro U listed w x hU hnd hmem hsz hun hcl hS hV
    have hne : U ≠ [] := fun e => by rw [e] at hU; simp at hU
    show (_ → _) ∧ _
    refine ⟨fun hr => ?_, fun i hi => ?_⟩
    · exfalso
      obtain ⟨i, hiU, hmin⟩ := min_mem U hne
      obtain ⟨him, hil⟩ := (hmem i).1 hiU
      have hlt : i < ops.size := by omega
      have : i ∈ Region.ready .any ops listed := mem_ready.2 ⟨by simpa [Array.getD, hsz, hlt] using hil, _, Array.getElem?_eq_getElem hlt, fun e he hb => by
        have hlti := (hspec i _ (Array.getElem?_eq_getElem hlt) him).1 e he hb
        cases h : listed.getD e.on false
        · have := hmin e.on ((hmem _).2 ⟨by omega, h⟩); omega
        · rfl⟩
      rw [hr] at this
      cases this
    · obtain ⟨hil, o, ho, hdeps⟩ := mem_ready.1 hi
      have hlt : i < ops.size := (Array.getElem?_eq_some_iff.1 ho).1
      have hil' : listed.getD i false = false := by simpa [Array.getD, hsz, hlt] using hil
      have hreach := listed_reach hok (fun i => listed.getD i false) hcl i o ho hdeps
      have him : i < m := by
        rcases Nat.lt_or_ge i m with h | h
        · exact h
        · exfalso
          obtain ⟨k, hk⟩ := List.exists_mem_of_ne_nil U hne
          obtain ⟨hkm, hkl⟩ := (hmem k).1 hk
          have := hreach k (htail i hlt h k hkm)
          rw [hkl] at this; cases this
      obtain ⟨_, ⟨d, hd, hdsz, hduniq⟩, hlook⟩ := hspec i o ho him
      have hdst : dstOf ops i = some d := by simp [dstOf, ho, hd]
      have hso : ∀ cs b, o.op ≠ .select cs b := fun cs b => Region.noSelect_spec hsel i o cs b ho
      -- the two frames agree on what o looks at
      have hagree : ∀ t ∈ o.looksAt ops, (putD ops (fun i => listed.getD i false) x a0 m).tmps[t]? = (putS ops x a0 i).tmps[t]? := fun t ht => by
        by_cases hex : ∃ k, k < m ∧ dstOf ops k = some t
        · obtain ⟨k, hkm, hkd⟩ := hex
          have hkR := hlook t ht k hkm hkd
          have hki := reach_lt hok i hlt k hkR
          have hkl := hreach k hkR
          have hks : k < ops.size := by omega
          obtain ⟨_, ⟨d', hd', hdsz', hu'⟩, _⟩ := hspec k _ (Array.getElem?_eq_getElem hks) hkm
          have htd : d' = t := by
            have : dstOf ops k = some d' := by simp [dstOf, Array.getElem?_eq_getElem hks, hd']
            rw [hkd] at this; injection this with this; exact this.symm
          rw [putD_at _ _ _ _ k hkd hkl (htd ▸ hdsz') m hkm (fun l hl hlk => htd ▸ hu' l hl hlk)]
          unfold putS
          rw [putD_at _ _ _ _ k hkd rfl (htd ▸ hdsz') i hki (fun l hl hlk => htd ▸ hu' l (by omega) hlk)]
        · rw [putD_other _ _ _ _ m (fun k hk hkd => absurd ⟨k, hk, hkd⟩ hex)]
          unfold putS
          rw [putD_other _ _ _ _ i (fun k hk hkd => absurd ⟨k, by omega, hkd⟩ hex)]
      have hob' := hob x i him w hS (fun k hk => by
        obtain ⟨hkR, hkC⟩ := avail_spec.1 hk
        refine hV k (by have := reach_lt hok i hlt k hkR; omega) (hreach k hkR) (fun j hj hc => ?_)
        rcases hkC j hj hc with rfl | hij
        · exact hil'
        · cases hjl : listed.getD j false
          · rfl
          · have hjs : j < ops.size := by omega
            have := listed_reach hok (fun i => listed.getD i false) hcl j _ (Array.getElem?_eq_getElem hjs) (hcl j _ (Array.getElem?_eq_getElem hjs) hjl) i hij
            rw [hil'] at this; cases this)
      have hsz1 := putD_size (ops := ops) (fun _ => true) x a0 i
      -- what comes behind
      have next : ∀ v w', ((V x).getD i VAny).p v w' → Below (lim C B i w) w w' → wpAny P .any ops Q (ops.size - m + c) (listed.setIfInBounds i true) ((putD ops (fun i => listed.getD i false) x a0 m).put (some d) v) w' := fun v w' hv hb => by
        have hput := putD_put (ops := ops) (fun k => listed.getD k false) (fun k => (listed.setIfInBounds i true).getD k false) x (fun k => if k = i then v else x k) a0 i hil'
          (by simp [hsz, hlt]) (fun k hk => ⟨by rw [getD_set_ne _ (Ne.symm hk)], by simp [hk]⟩) m him
          (fun d' k hk hki hd' => by rw [hdst] at hd'; injection hd' with hd'; exact hd' ▸ hduniq k hk hki)
        simp only [if_true] at hput
        rw [← hdst, hput]
        refine ih (U.erase i) _ _ _ ?_ (hnd.erase _) (fun k => ?_) (by simpa using hsz) (fun k h1 h2 => ?_) (fun j oj hoj hj e he hb' => ?_) (hSt i _ _ hS hb) (fun k hk hkl hcons => ?_)
        · rw [List.length_erase_of_mem ((hmem i).2 ⟨him, hil'⟩), hU]; rfl
        · rw [hnd.mem_erase_iff, hmem]
          by_cases hk : k = i
          · subst hk; simp [hsz, hlt]
          · rw [getD_set_ne _ (Ne.symm hk)]; simp [hk]
        · rw [getD_set_ne _ (by omega)]; exact hun k h1 h2
        · by_cases hji : j = i
          · subst hji
            rw [ho] at hoj; injection hoj with hoj; subst hoj
            exact getD_set_true (hdeps e he hb')
          · rw [getD_set_ne _ (Ne.symm hji)] at hj
            exact getD_set_true (hcl j oj hoj hj e he hb')
        · by_cases hki : k = i
          · subst hki
            rw [hdep _ x k (fun l hl => by have := reach_lt hok k hlt l hl; simp only [show l ≠ k by omega, if_false])]
            simpa using hv
          · rw [getD_set_ne _ (Ne.symm hki)] at hkl
            have hks : k < ops.size := by omega
            have hdk : (V fun l => if l = i then v else x l).getD k VAny = (V x).getD k VAny := hdep _ x k (fun l hl => by
              have hll := listed_reach hok (fun i => listed.getD i false) hcl k _ (Array.getElem?_eq_getElem hks) (hcl k _ (Array.getElem?_eq_getElem hks) hkl) l hl
              have hne : l ≠ i := fun e => by rw [e] at hll; rw [hil'] at hll; cases hll
              simp only [hne, if_false])
            simp only [hki, if_false]
            rw [hdk]
            have hb0 : ∀ j, j < m → k ∈ C.getD j [] → listed.getD j false = false := fun j hj hc => by
              have h1 := hcons j hj hc
              by_cases hji : j = i
              · rw [hji]; exact hil'
              · rwa [getD_set_ne _ (Ne.symm hji)] at h1
            have hkC : k ∉ C.getD i [] := fun hc => by
              have h1 := hcons i him hc
              simp [hsz, hlt] at h1
            have hiR : i ∉ R.getD k [] := fun hik => by
              have := listed_reach hok (fun i => listed.getD i false) hcl k _ (Array.getElem?_eq_getElem hks) (hcl k _ (Array.getElem?_eq_getElem hks) hkl) i hik
              rw [hil'] at this; cases this
            cases he : (C.getD i []).isEmpty
            · rw [show lim C B i w = B by unfold lim; rw [he]; rfl] at hb
              exact hweak i him he k hk hki hiR hkC x _ _ _ (hV k hk hkl hb0) hb
            · rw [show lim C B i w = w.heap.size by unfold lim; rw [he]; rfl] at hb
              exact ((V x).getD k VAny).st _ _ _ (hV k hk hkl hb0) hb
      unfold wpOp at hob' ⊢
      simp only [ho] at hob' ⊢
      rw [wanted_same hagree]
      split
      · rename_i hw
        rw [if_pos hw] at hob'
        rcases hob' with h | ⟨_, h⟩
        case inr => exact absurd h NoWay.lets
        refine .inl (Oper.wp_mono ?_ (wp_move (Q := Q) (d := d) (R := fun v w' => ((V x).getD i VAny).p v w' ∧ Below (lim C B i w) w w') (exec_same hso hagree) hd (by unfold putS; rw [hsz1.1]; exact hdsz)
          (Oper.wp_mono (fun a' w' ⟨v, h1, h2, h3, h4⟩ => ⟨v, h1 d hdst, by unfold putS; rw [hsz1.2]; exact h2, h3, h4⟩) h)))
        rintro a' w' ⟨v, rfl, hv, hb⟩
        exact next v w' hv hb
      · rename_i hw
        rw [if_neg hw] at hob'
        obtain ⟨v, h1, _, h3, h4⟩ := hob'
        have hvu : v = undef := by
          have := h1 d hdst
          rw [hd] at this
          simp [Act.put, putS, hsz1.1, hdsz] at this
          exact this.symm
        rw [hd]
        exact next undef w (hvu ▸ h3) h4
/-- **A region that draws its order**: each of its first m operations is shown once; what is left behind them goes on. -/
theorem wp_tasksD {id m B : Nat} (R C : List (List Nat)) (V : (Nat → Value) → List VP) (S : World → Prop) {a0 : Act} {w : World} (hm : P.follows .mixedOrders = true) (hok : tasksOk ops m a0.tmps.size R = true)
    (hdep : ∀ x x' j, (∀ i ∈ R.getD j [], x i = x' i) → (V x).getD j VAny = (V x').getD j VAny) (hweak : ∀ i, i < m → (C.getD i []).isEmpty = false → ∀ k, k < m → k ≠ i → i ∉ R.getD k [] → k ∉ C.getD i [] → ∀ x v w w', ((V x).getD k VAny).p v w → Below B w w' → ((V x).getD k VAny).p v w') (hS0 : S w.drew) (hSt : ∀ j w w', S w → Below (lim C B j w) w w' → S w') (hob : ∀ x j, j < m → ObD P ops S R C B m V x a0 j)
    (hend : ∀ x w', S w' → (∀ i ∈ endL C m, ((V x).getD i VAny).p (x i) w') → wpAny P .any ops Q (ops.size - m) (listedTo ops.size m) (putS ops x a0 m) w') : (Code.region id ops true).wp P Q a0 w := by
  have hmn := (tasks_spec hok).1
  have hf : ∀ i, (Array.replicate ops.size false).getD i false = false := fun i => by simp [Array.getD]
  have h := tasks_goD (Q := Q) hok hdep hweak hSt hob hend m (List.range m) (Array.replicate ops.size false) w.drew (fun _ => undef) (by simp) List.nodup_range (fun i => by rw [hf]; simp) (by simp) (fun i _ _ => hf i) (fun j o _ hj => by rw [hf] at hj; cases hj) hS0
    (fun i _ hi => by rw [hf] at hi; cases hi)
  refine wp_region_any hm ?_
  rw [show ops.size - m + m = ops.size by omega, putD_congr (ops := ops) _ (fun _ => false) _ (fun _ => undef) a0 m (fun i _ => ⟨hf i, fun _ => rfl⟩)] at h
  have e : ∀ n, putD ops (fun _ => false) (fun _ => undef) a0 n = a0 := fun n => by
    induction n with
    | zero => rfl
    | succ n ih => unfold putD; simpa using ih
  rw [e] at h
  exact h
/-- What is to be shown, operation by operation, in the text's order; the frame goes along. -/
def ObsD (P : Program) (ops : Array Oper) (Q : Exit → Act → World → Prop) (S : World → Prop) (R C : List (List Nat)) (B m : Nat) (V : (Nat → Value) → List VP) (x : Nat → Value) : Nat → Nat → Act → Prop
  | 0, j, a => ∀ w, S w → (∀ i ∈ endL C m, ((V x).getD i VAny).p (x i) w) → wpAny P .any ops Q (ops.size - j) (listedTo ops.size j) a w
  | r + 1, j, a => (∀ w, S w → (∀ i ∈ availL R C m j, ((V x).getD i VAny).p (x i) w) →
      wpOp P ops NoWay j (fun a' w' => ∃ v, (∀ d, dstOf ops j = some d → a'.tmps[d]? = some v) ∧ a'.defers = a.defers ∧ ((V x).getD j VAny).p v w' ∧ Below (lim C B j w) w w') a w) ∧
    ObsD P ops Q S R C B m V x r (j + 1) (a.put (dstOf ops j) (x j))
theorem obs_allD {S : World → Prop} {R C : List (List Nat)} {B m : Nat} {V : (Nat → Value) → List VP} {x : Nat → Value} {a0 : Act} : ∀ (r j : Nat), ObsD P ops Q S R C B m V x r j (putS ops x a0 j) →
    (∀ k, j ≤ k → k < j + r → ObD P ops S R C B m V x a0 k) ∧ ∀ w, S w → (∀ i ∈ endL C m, ((V x).getD i VAny).p (x i) w) → wpAny P .any ops Q (ops.size - (j + r)) (listedTo ops.size (j + r)) (putS ops x a0 (j + r)) w := by
  intro r
  induction r with
  | zero => intro j h; exact ⟨fun k h1 h2 => by omega, h⟩
  | succ r ih =>
    intro j h
    obtain ⟨h1, h2⟩ := h
    have h2' : ObsD P ops Q S R C B m V x r (j + 1) (putS ops x a0 (j + 1)) := h2
    obtain ⟨h3, h4⟩ := ih (j + 1) h2'
    refine ⟨fun k hk1 hk2 => ?_, by rw [show j + (r + 1) = j + 1 + r by omega]; exact h4⟩
    by_cases hk : k = j
    · subst hk
      intro w hS hV
      have h := h1 w hS hV
      rw [show (putS ops x a0 k).defers = a0.defers from (putD_size _ _ _ _).2] at h
      exact h
    · exact h3 k (by omega) (by omega)
theorem wp_obsD {id : Nat} (m B : Nat) (R C : List (List Nat)) (V : (Nat → Value) → List VP) (S : World → Prop) {a0 : Act} {w : World} (hm : P.follows .mixedOrders = true) (hok : tasksOk ops m a0.tmps.size R = true)
    (hdep : ∀ x x' j, (∀ i ∈ R.getD j [], x i = x' i) → (V x).getD j VAny = (V x').getD j VAny) (hweak : ∀ i, i < m → (C.getD i []).isEmpty = false → ∀ k, k < m → k ≠ i → i ∉ R.getD k [] → k ∉ C.getD i [] → ∀ x v w w', ((V x).getD k VAny).p v w → Below B w w' → ((V x).getD k VAny).p v w') (hSt : ∀ j w w', S w → Below (lim C B j w) w w' → S w') (hS0 : S w.drew) (h : ∀ x, ObsD P ops Q S R C B m V x m 0 a0) : (Code.region id ops true).wp P Q a0 w :=
  wp_tasksD (m := m) (B := B) R C V S hm hok hdep hweak hS0 hSt (fun x j hj => (obs_allD m 0 (h x)).1 j (by omega) (by omega)) (fun x w' hS hV => by
    have := (obs_allD m 0 (h x)).2 w' hS (hV)
    rwa [Nat.zero_add] at this)
theorem obs_stepD {S : World → Prop} {R C : List (List Nat)} {B m : Nat} {V : (Nat → Value) → List VP} {x : Nat → Value} {r j : Nat} {a : Act} {o : Oper} {d : Tmp} (ho : ops[j]? = some o) (hd : o.dst = some d)
    (h : ∀ w, S w → (∀ i ∈ availL R C m j, ((V x).getD i VAny).p (x i) w) → ∀ K : Act → World → Prop, Shut (∀ a' w' v, a'.tmps[d]? = some v → a'.defers = a.defers → ((V x).getD j VAny).p v w' → Below (lim C B j w) w w' → K a' w') →
      if Region.wanted o (yielded ops a.tmps) = true then Oper.wp P o a w K NoWay else K (a.put o.dst undef) w)
    (hr : ObsD P ops Q S R C B m V x r (j + 1) { a with tmps := a.tmps.setIfInBounds d (x j) }) : ObsD P ops Q S R C B m V x (r + 1) j a := by
  have hdst : dstOf ops j = some d := by simp [dstOf, ho, hd]
  refine ⟨fun w hS hV => wpOp_step ho (fun K hK => ?_), by rw [hdst]; exact hr⟩
  exact h w hS hV K (fun a' w' v h1 h2 h3 h4 => hK a' w' ⟨v, fun d' hd' => by rw [hdst] at hd'; injection hd' with hd'; exact hd' ▸ h1, h2, h3, h4⟩)
/-- Those that bear an append in place: their values are plain. -/
theorem weak_of {m B : Nat} {R C : List (List Nat)} {V : (Nat → Value) → List VP} (Wk : List Nat)
    (hchk : ((List.range m).all fun i => (C.getD i []).isEmpty || (List.range m).all fun k => k == i || (R.getD k []).contains i || (C.getD i []).contains k || Wk.contains k) = true)
    (hW : ∀ k ∈ Wk, ∀ x, ∃ u, (V x).getD k VAny = VIs u) :
    ∀ i, i < m → (C.getD i []).isEmpty = false → ∀ k, k < m → k ≠ i → i ∉ R.getD k [] → k ∉ C.getD i [] → ∀ x v w w', ((V x).getD k VAny).p v w → Below B w w' → ((V x).getD k VAny).p v w' := by
  intro i hi he k hk hne hR hC x v w w' hp _
  have h1 := List.all_eq_true.1 hchk i (List.mem_range.2 hi)
  rw [he, Bool.false_or] at h1
  have h2 := List.all_eq_true.1 h1 k (List.mem_range.2 hk)
  rw [Bool.or_eq_true, Bool.or_eq_true, Bool.or_eq_true, beq_iff_eq, List.contains_iff_mem, List.contains_iff_mem, List.contains_iff_mem] at h2
  rcases h2 with ((h2 | h2) | h2) | h2
  · exact absurd h2 hne
  · exact absurd h2 hR
  · exact absurd h2 hC
  · obtain ⟨u, hu⟩ := hW k h2 x
    rw [hu] at hp ⊢
    exact hp
theorem lim_ge {C : List (List Nat)} {B j : Nat} {w : World} (h : B ≤ w.heap.size) : B ≤ lim C B j w := by
  unfold lim
  split
  · exact h
  · exact Nat.le_refl _
end
end Go.Proofs.YtggigolkncckoaaGreat
namespace Go.Proofs.YtggigolkncckoaaGreat
open Go.RowKit
/-- The value is the second one of two lists of lists; the first one is x. -/
def VTwo (w0 : World) (n : Nat) (L : List (List Int)) (m : Nat) (M : List (List Int)) (x : Value) : VP :=
  ⟨fun v w => ∃ A c B d, x = .slice A n c ∧ v = .slice B m d ∧ MkII2 w0 w A n c L B m M, fun _ _ _ ⟨A, c, B, d, e, e', h⟩ hb => ⟨A, c, B, d, e, e', h.below hb⟩⟩
/-- JoinOf. -/
def joiR (P : Int) (sq : List Int) (xs : List Int) (ys : List Int) : List Int × Int := if codeL P sq [xs, ys] = 0 then (blaL P sq sq.length (subL P sq sq.length xs ++ subL P sq sq.length ys), 0) else ([], codeL P sq [xs, ys])
theorem joiR_ok {P : Int} {sq xs ys : List Int} (h : codeL P sq [xs, ys] = 0) : joiR P sq xs ys = (blaL P sq sq.length (subL P sq sq.length xs ++ subL P sq sq.length ys), 0) := by unfold joiR; rw [if_pos h]
theorem joiR_bad {P : Int} {sq xs ys : List Int} (h : ¬ codeL P sq [xs, ys] = 0) : joiR P sq xs ys = ([], codeL P sq [xs, ys]) := by unfold joiR; rw [if_neg h]
theorem joiR_len (P : Int) (sq xs ys : List Int) : (joiR P sq xs ys).1.length ≤ 1048576 := by
  by_cases h : codeL P sq [xs, ys] = 0
  · obtain ⟨HP, hp, _, h1, h6, _, _⟩ := codeM_spec3 (codeL_zero h).1
    rw [joiR_ok h]
    show (blaL _ _ _ _).length ≤ _
    rw [blaL_len]
    exact Nat.le_trans (pw_le h6) (by decide)
  · rw [joiR_bad h]; simp
set_option maxHeartbeats 3200000 in
set_option maxRecDepth 8000 in
theorem JoinOf_any (P : Int) (A : Option Addr) (n c : Nat) (sq : List Int) (X : Option Addr) (m cx : Nat) (xs : List Int) (Y : Option Addr) (l cy : Nat) (ys : List Int) (w : World) (hn : n ≤ 1048576) (hm : m ≤ 1048576) (hl : l ≤ 1048576) (ha : Rd w A n (ints sq)) (hx : Rd w X m (ints xs)) (hcx : m ≤ cx) (hy : Rd w Y l (ints ys)) (hcy : l ≤ cy) :
    Calls Tryz.prog 77 #[.agg #[.int .i64 P, .slice A n c], .slice X m cx, .slice Y l cy] w fun e w' => ∃ (A' : Option Addr) (k c' : Nat), e = .returned (.tuple #[.slice A' k c', .int .i64 (joiR P sq xs ys).2]) ∧ MkI w w' A' k c' (joiR P sq xs ys).1 := by
  have hB0 : Below w.heap.size w (w.alloc (.cells #[.int .i64 P, .slice A n c] 26)) := (Below.refl _ _).alloc (Nat.le_refl _) _
  have k0 : Blk (w.alloc (.cells #[.int .i64 P, .slice A n c] 26)) w.heap.size 26 #[.int .i64 P, .slice A n c] := Blk.new _ _ _
  have hB1 : Below w.heap.size w ((w.alloc (.cells #[.int .i64 P, .slice A n c] 26)).alloc (.cells #[.slice X m cx, .slice Y l cy] 24)) := hB0.alloc (by simp) _
  have k1 : Blk ((w.alloc (.cells #[.int .i64 P, .slice A n c] 26)).alloc (.cells #[.slice X m cx, .slice Y l cy] 24)) w.heap.size 26 #[.int .i64 P, .slice A n c] := k0.alloc _
  have hreg := checkBlades_any P A (some ⟨w.heap.size + 1, 0, none⟩) n c 2 2 sq [xs, ys] ((w.alloc (.cells #[.int .i64 P, .slice A n c] 26)).alloc (.cells #[.slice X m cx, .slice Y l cy] 24)) hn (by omega) (ha.below hB1) (rdII_two (Blk.newAt3 (by simp)) (hx.below hB1) (hy.below hB1) hcx hcy) (all_two (by rw [hx.lenI]; exact hm) (by rw [hy.lenI]; exact hl))
  by_cases hr0 : codeL P sq [xs, ys] = 0
  · skip
    have hcM := (codeL_zero hr0).1
    rw [hr0] at hreg
    have HR0 := Lib.hid hr0
    clear hr0
    obtain ⟨HP, hp, hp2, hd1, hd2, hs0, hms⟩ := codeM_spec3 hcM
    have hsl := ha.lenI
    obtain ⟨hx1, hxs0⟩ := hms xs (by simp)
    have hmx : m = pw n := by rw [← hx.lenI, hx1, hsl]
    subst hmx
    obtain ⟨hy1, hys0⟩ := hms ys (by simp)
    have hly : l = pw n := by rw [← hy.lenI, hy1, hsl]
    subst hly
    have HYS := Lib.hid hys0
    clear hy1 hys0
    have HSL := Lib.hid hsl
    have HS0 := Lib.hid hs0
    have HXS := Lib.hid hxs0
    have hn6 : n ≤ 6 := by omega
    have hn0 : 0 < n := by omega
    clear hsl hms hx1 hs0 hxs0 hd1 hd2 hcM
    go_enter Tryz.func77, Tryz.ntmps77
    go_wp2_with fail
    refine hreg.mono ?_
    rintro e w2 ⟨rfl, hb2⟩
    have hB2 := hB1.trans (hb2.mono hB1.size)
    have k2 := k1.below hb2 k1.lt
    obtain ⟨q0, q1⟩ := k2.two
    clear k0 hB0 k1 hB1 hb2
    have HOK : Hid (joiR P sq xs ys = (blaL P sq n (subL P sq n xs ++ subL P sq n ys), 0)) := Lib.hid (by rw [joiR_ok HR0.out, HSL.out])
    have hkl : w.heap.size < w2.heap.size := k2.lt
    have hls := subL_len HP sq n xs
    have hly := subL_len HP sq n ys
    have HLL := Lib.hid (And.intro hls hly)
    have HTT := Lib.hid ((subL_tab hp sq n xs).append (subL_tab hp sq n ys))
    have HSUB := Lib.hid fun (w' : World) (h : Below w2.heap.size w2 w') => subspace_any P A n c sq X cx xs w' HP hn6 hn0 ((ha.below hB2).below h) HS0.out ((hx.below hB2).below h) HXS.out
    have HSUY := Lib.hid fun (w' : World) (h : Below w2.heap.size w2 w') => subspace_any P A n c sq Y cy ys w' HP hn6 hn0 ((ha.below hB2).below h) HS0.out ((hy.below hB2).below h) HYS.out
    have HBLA := Lib.hid fun (w' : World) (B : Option Addr) (d : Nat) (h : Below w2.heap.size w2 w') (hb : RdII w' B ((subL P sq n xs).length + (subL P sq n ys).length) (subL P sq n xs ++ subL P sq n ys)) => bladeOf_any P A n c sq B _ d _ w' HP hn6 hn0 (by omega) ((ha.below hB2).below h) HS0.out hb HTT.out
    clear hls hly HTT
    obtain ⟨LJ, hLJ⟩ : ∃ R, R = blaL P sq n (subL P sq n xs ++ subL P sq n ys) := ⟨_, rfl⟩
    rw [← hLJ] at HOK HBLA
    obtain ⟨LA, hLA⟩ : ∃ R, R = subL P sq n xs := ⟨_, rfl⟩
    obtain ⟨LB, hLB⟩ : ∃ R, R = subL P sq n ys := ⟨_, rfl⟩
    rw [← hLA] at HSUB
    rw [← hLB] at HSUY
    rw [← hLA, ← hLB] at HBLA HLL
    clear hLJ hLA hLB
    go_wp2
    refine wp_obsD 11 w2.heap.size [[], [], [], [1, 2], [], [], [1, 2, 3, 4, 5], [1, 2, 3, 4, 5, 6], [0, 1, 2, 3, 4, 5, 6, 7], [0, 1, 2, 3, 4, 5, 6, 7, 8], []] [[], [], [], [], [], [], [], [3, 6], [], [], []] (fun x => [VIs (.agg #[.int .i64 P, .slice A n c]), VIs (.agg #[.int .i64 P, .slice A n c]), VIs (.slice X (pw n) cx), VMat w2 LA.length LA, VIs (.agg #[.int .i64 P, .slice A n c]), VIs (.slice Y (pw n) cy), VTwo w2 LA.length LA LB.length LB (x 3), VMat w2 (LA.length + LB.length) (LA ++ LB), VSl w2 (pw n) LJ, VSl w2 (pw n) LJ, VIs (.int .i64 0)]) (fun w' => Blk w' w.heap.size 26 #[.int .i64 P, .slice A n c] ∧ Below w2.heap.size w2 w') (by kernel_rfl) (by kernel_rfl) (fun x x' j hx => by
        rcases j with _ | _ | _ | _ | _ | _ | _ | _ | _ | _ | _ | j
        · rfl
        · rfl
        · rfl
        · rfl
        · rfl
        · rfl
        · rw [hx 3 (by decide)]
        · rfl
        · rfl
        · rfl
        · rfl
        · rfl)
      (weak_of [0, 1, 2, 4, 5, 10] (by decide) (fun k hk x => by
        simp only [List.mem_cons, List.not_mem_nil, or_false] at hk
        rcases hk with rfl | rfl | rfl | rfl | rfl | rfl <;> exact ⟨_, rfl⟩)) (fun j _ _ h hb => ⟨h.1.below (hb.mono (lim_ge h.2.size)) hkl, h.2.trans (hb.mono (lim_ge h.2.size))⟩) (⟨k2.drew, (Below.refl _ _).drew⟩) (fun x => ?_)
    refine obs_stepD (Eq.trans (by simp only [List.getElem?_toArray, List.getElem?_cons_zero]; exact rfl) rfl) rfl (fun w' hS hV K hK => ?_) ?_
    · obtain ⟨q0, q1⟩ := hS.1.two
      go_simp
      exact hK.out _ _ _ rfl rfl rfl (Below.refl _ _)
    simp only [List.setIfInBounds_toArray, List.set_cons_zero, List.set_cons_succ]
    refine obs_stepD (Eq.trans (by simp only [List.getElem?_toArray, List.getElem?_cons_succ, List.getElem?_cons_zero]; exact rfl) rfl) rfl (fun w' hS hV K hK => ?_) ?_
    · obtain ⟨q0, q1⟩ := hS.1.two
      go_simp
      exact hK.out _ _ _ rfl rfl rfl (Below.refl _ _)
    simp only [List.setIfInBounds_toArray, List.set_cons_zero, List.set_cons_succ]
    refine obs_stepD (Eq.trans (by simp only [List.getElem?_toArray, List.getElem?_cons_succ, List.getElem?_cons_zero]; exact rfl) rfl) rfl (fun w' hS hV K hK => ?_) ?_
    · obtain ⟨q0, q1⟩ := hS.1.two
      go_simp
      exact hK.out _ _ _ rfl rfl rfl (Below.refl _ _)
    simp only [List.setIfInBounds_toArray, List.set_cons_zero, List.set_cons_succ]
    refine obs_stepD (Eq.trans (by simp only [List.getElem?_toArray, List.getElem?_cons_succ, List.getElem?_cons_zero]; exact rfl) rfl) rfl (fun w' hS hV K hK => ?_) ?_
    · have e1 : x 1 = (.agg #[.int .i64 P, .slice A n c]) := hV 1 (by decide)
      have e2 : x 2 = (.slice X (pw n) cx) := hV 2 (by decide)
      obtain ⟨q0, q1⟩ := hS.1.two
      go_simp
      refine (HSUB.out w' hS.2).mono ?_
      rintro e v1 ⟨A2, c2, rfl, hM⟩
      exact hK.out _ _ _ rfl rfl ⟨_, _, rfl, hM.after hS.2⟩ hM.b
    simp only [List.setIfInBounds_toArray, List.set_cons_zero, List.set_cons_succ]
    refine obs_stepD (Eq.trans (by simp only [List.getElem?_toArray, List.getElem?_cons_succ, List.getElem?_cons_zero]; exact rfl) rfl) rfl (fun w' hS hV K hK => ?_) ?_
    · obtain ⟨q0, q1⟩ := hS.1.two
      go_simp
      exact hK.out _ _ _ rfl rfl rfl (Below.refl _ _)
    simp only [List.setIfInBounds_toArray, List.set_cons_zero, List.set_cons_succ]
    refine obs_stepD (Eq.trans (by simp only [List.getElem?_toArray, List.getElem?_cons_succ, List.getElem?_cons_zero]; exact rfl) rfl) rfl (fun w' hS hV K hK => ?_) ?_
    · obtain ⟨q0, q1⟩ := hS.1.two
      go_simp
      exact hK.out _ _ _ rfl rfl rfl (Below.refl _ _)
    simp only [List.setIfInBounds_toArray, List.set_cons_zero, List.set_cons_succ]
    refine obs_stepD (Eq.trans (by simp only [List.getElem?_toArray, List.getElem?_cons_succ, List.getElem?_cons_zero]; exact rfl) rfl) rfl (fun w' hS hV K hK => ?_) ?_
    · have e1 : x 1 = (.agg #[.int .i64 P, .slice A n c]) := hV 1 (by decide)
      have e2 : x 2 = (.slice X (pw n) cx) := hV 2 (by decide)
      obtain ⟨A3, c3, e3, h3⟩ := hV 3 (by decide)
      have e4 : x 4 = (.agg #[.int .i64 P, .slice A n c]) := hV 4 (by decide)
      have e5 : x 5 = (.slice Y (pw n) cy) := hV 5 (by decide)
      obtain ⟨q0, q1⟩ := hS.1.two
      go_simp
      refine (HSUY.out w' hS.2).mono ?_
      rintro e v1 ⟨A2, c2, rfl, hM⟩
      exact hK.out _ _ _ rfl rfl ⟨_, _, _, _, e3, rfl, MkII2.of_first h3 hM⟩ hM.b
    simp only [List.setIfInBounds_toArray, List.set_cons_zero, List.set_cons_succ]
    refine obs_stepD (Eq.trans (by simp only [List.getElem?_toArray, List.getElem?_cons_succ, List.getElem?_cons_zero]; exact rfl) rfl) rfl (fun w' hS hV K hK => ?_) ?_
    · have e1 : x 1 = (.agg #[.int .i64 P, .slice A n c]) := hV 1 (by decide)
      have e2 : x 2 = (.slice X (pw n) cx) := hV 2 (by decide)
      obtain ⟨A3, c3, e3, h3⟩ := hV 3 (by decide)
      have e4 : x 4 = (.agg #[.int .i64 P, .slice A n c]) := hV 4 (by decide)
      have e5 : x 5 = (.slice Y (pw n) cy) := hV 5 (by decide)
      obtain ⟨A6, c6, B6, d6, e3, e6, h6⟩ := hV 6 (by decide)
      obtain ⟨q0, q1⟩ := hS.1.two
      refine wp_appRows w2 w' _ _ rfl A6 LA.length c6 LA B6 LB.length d6 LB h6 (by have := HLL.out; omega) e3 e6 ?_
      intro A' c' w'' hM hgr
      exact hK.out _ _ _ rfl rfl ⟨_, _, rfl, hM⟩ (h6.grown_below hgr (Below.refl _ _) (Nat.le_refl _))
    simp only [List.setIfInBounds_toArray, List.set_cons_zero, List.set_cons_succ]
    refine obs_stepD (Eq.trans (by simp only [List.getElem?_toArray, List.getElem?_cons_succ, List.getElem?_cons_zero]; exact rfl) rfl) rfl (fun w' hS hV K hK => ?_) ?_
    · have e0 : x 0 = (.agg #[.int .i64 P, .slice A n c]) := hV 0 (by decide)
      have e1 : x 1 = (.agg #[.int .i64 P, .slice A n c]) := hV 1 (by decide)
      have e2 : x 2 = (.slice X (pw n) cx) := hV 2 (by decide)
      have e4 : x 4 = (.agg #[.int .i64 P, .slice A n c]) := hV 4 (by decide)
      have e5 : x 5 = (.slice Y (pw n) cy) := hV 5 (by decide)
      obtain ⟨A7, c7, e7, h7⟩ := hV 7 (by decide)
      obtain ⟨q0, q1⟩ := hS.1.two
      go_simp
      refine (HBLA.out w' _ _ hS.2 h7.rd).mono ?_
      rintro e v1 ⟨A2, c2, rfl, hM⟩
      exact hK.out _ _ _ rfl rfl ⟨_, _, rfl, hM.after hS.2⟩ hM.b
    simp only [List.setIfInBounds_toArray, List.set_cons_zero, List.set_cons_succ]
    refine obs_stepD (Eq.trans (by simp only [List.getElem?_toArray, List.getElem?_cons_succ, List.getElem?_cons_zero]; exact rfl) rfl) rfl (fun w' hS hV K hK => ?_) ?_
    · have e0 : x 0 = (.agg #[.int .i64 P, .slice A n c]) := hV 0 (by decide)
      have e1 : x 1 = (.agg #[.int .i64 P, .slice A n c]) := hV 1 (by decide)
      have e2 : x 2 = (.slice X (pw n) cx) := hV 2 (by decide)
      have e4 : x 4 = (.agg #[.int .i64 P, .slice A n c]) := hV 4 (by decide)
      have e5 : x 5 = (.slice Y (pw n) cy) := hV 5 (by decide)
      obtain ⟨A7, c7, e7, h7⟩ := hV 7 (by decide)
      obtain ⟨A8, c8, e8, h8⟩ := hV 8 (by decide)
      obtain ⟨q0, q1⟩ := hS.1.two
      go_simp
      exact hK.out _ _ _ rfl rfl ⟨_, _, rfl, h8⟩ (Below.refl _ _)
    simp only [List.setIfInBounds_toArray, List.set_cons_zero, List.set_cons_succ]
    refine obs_stepD (Eq.trans (by simp only [List.getElem?_toArray, List.getElem?_cons_succ, List.getElem?_cons_zero]; exact rfl) rfl) rfl (fun w' hS hV K hK => ?_) ?_
    · obtain ⟨q0, q1⟩ := hS.1.two
      go_simp
      exact hK.out _ _ _ rfl rfl rfl (Below.refl _ _)
    simp only [List.setIfInBounds_toArray, List.set_cons_zero, List.set_cons_succ]
    refine fun w' hS hV => ?_
    have e0 : x 0 = (.agg #[.int .i64 P, .slice A n c]) := hV 0 (by decide)
    have e1 : x 1 = (.agg #[.int .i64 P, .slice A n c]) := hV 1 (by decide)
    have e2 : x 2 = (.slice X (pw n) cx) := hV 2 (by decide)
    have e4 : x 4 = (.agg #[.int .i64 P, .slice A n c]) := hV 4 (by decide)
    have e5 : x 5 = (.slice Y (pw n) cy) := hV 5 (by decide)
    obtain ⟨A7, c7, e7, h7⟩ := hV 7 (by decide)
    obtain ⟨A8, c8, e8, h8⟩ := hV 8 (by decide)
    obtain ⟨A9, c9, e9, h9⟩ := hV 9 (by decide)
    have e10 : x 10 = (.int .i64 0) := hV 10 (by decide)
    simp only [e0, e1, e2, e4, e5, e7, e8, e9, e10]
    clear e0 e1 e2 e4 e5 e7 e8 e9 e10
    refine wpAny_done (by kernel_rfl) ?_ _
    go_wp2
    go_ret2
    exact aRow3 HOK.out (h9.after hB2)
  · obtain ⟨r, hr⟩ : ∃ r, r = codeL P sq [xs, ys] := ⟨_, rfl⟩
    have HR := Lib.hid hr
    have HR0 := Lib.hid hr0
    have b0 : (r != 0) = true := code_ne (by rw [hr]; exact hr0)
    rw [← hr] at hreg
    clear hr hr0
    go_enter Tryz.func77, Tryz.ntmps77
    go_wp2_with fail
    refine hreg.mono ?_
    rintro e w2 ⟨rfl, hb2⟩
    have hB2 := hB1.trans (hb2.mono hB1.size)
    have k2 := k1.below hb2 k1.lt
    obtain ⟨q0, q1⟩ := k2.two
    clear k0 hB0 k1 hB1 hb2
    go_wp2
    go_ret2
    exact noRow3 (by rw [joiR_bad HR0.out, HR.out]) hB2
set_option maxHeartbeats 3200000 in
set_option maxRecDepth 8000 in
theorem specJoinOf_any (P : Int) (A : Option Addr) (n c : Nat) (sq : List Int) (X : Option Addr) (m cx : Nat) (xs : List Int) (Y : Option Addr) (l cy : Nat) (ys : List Int) (w : World) (hn : n ≤ 1048576) (hm : m ≤ 1048576) (hl : l ≤ 1048576) (ha : Rd w A n (ints sq)) (hx : Rd w X m (ints xs)) (hcx : m ≤ cx) (hy : Rd w Y l (ints ys)) (hcy : l ≤ cy) :
    Calls Tryz.prog 78 #[.agg #[.int .i64 P, .slice A n c], .slice X m cx, .slice Y l cy] w fun e w' => ∃ (A' : Option Addr) (k c' : Nat), e = .returned (.tuple #[.slice A' k c', .int .i64 (joiR P sq xs ys).2]) ∧ MkI w w' A' k c' (joiR P sq xs ys).1 := by
  have hB0 : Below w.heap.size w (w.alloc (.cells #[.int .i64 P, .slice A n c] 26)) := (Below.refl _ _).alloc (Nat.le_refl _) _
  have k0 : Blk (w.alloc (.cells #[.int .i64 P, .slice A n c] 26)) w.heap.size 26 #[.int .i64 P, .slice A n c] := Blk.new _ _ _
  have hB1 : Below w.heap.size w ((w.alloc (.cells #[.int .i64 P, .slice A n c] 26)).alloc (.cells #[.slice X m cx, .slice Y l cy] 24)) := hB0.alloc (by simp) _
  have k1 : Blk ((w.alloc (.cells #[.int .i64 P, .slice A n c] 26)).alloc (.cells #[.slice X m cx, .slice Y l cy] 24)) w.heap.size 26 #[.int .i64 P, .slice A n c] := k0.alloc _
  have hreg := l06Code_any P A (some ⟨w.heap.size + 1, 0, none⟩) n c 2 2 sq [xs, ys] ((w.alloc (.cells #[.int .i64 P, .slice A n c] 26)).alloc (.cells #[.slice X m cx, .slice Y l cy] 24)) hn (by omega) (ha.below hB1) (rdII_two (Blk.newAt3 (by simp)) (hx.below hB1) (hy.below hB1) hcx hcy) (all_two (by rw [hx.lenI]; exact hm) (by rw [hy.lenI]; exact hl))
  by_cases hr0 : codeL P sq [xs, ys] = 0
  · skip
    have hcM := (codeL_zero hr0).1
    rw [hr0] at hreg
    have HR0 := Lib.hid hr0
    clear hr0
    obtain ⟨HP, hp, hp2, hd1, hd2, hs0, hms⟩ := codeM_spec3 hcM
    have hsl := ha.lenI
    obtain ⟨hx1, hxs0⟩ := hms xs (by simp)
    have hmx : m = pw n := by rw [← hx.lenI, hx1, hsl]
    subst hmx
    obtain ⟨hy1, hys0⟩ := hms ys (by simp)
    have hly : l = pw n := by rw [← hy.lenI, hy1, hsl]
    subst hly
    have HYS := Lib.hid hys0
    clear hy1 hys0
    have HSL := Lib.hid hsl
    have HS0 := Lib.hid hs0
    have HXS := Lib.hid hxs0
    have hn6 : n ≤ 6 := by omega
    have hn0 : 0 < n := by omega
    clear hsl hms hx1 hs0 hxs0 hd1 hd2 hcM
    go_enter Tryz.func78, Tryz.ntmps78
    go_wp2_with fail
    refine hreg.mono ?_
    rintro e w2 ⟨rfl, hb2⟩
    have hB2 := hB1.trans (hb2.mono hB1.size)
    have k2 := k1.below hb2 k1.lt
    obtain ⟨q0, q1⟩ := k2.two
    clear k0 hB0 k1 hB1 hb2
    have HOK : Hid (joiR P sq xs ys = (blaL P sq n (subL P sq n xs ++ subL P sq n ys), 0)) := Lib.hid (by rw [joiR_ok HR0.out, HSL.out])
    have hkl : w.heap.size < w2.heap.size := k2.lt
    have hls := subL_len HP sq n xs
    have hly := subL_len HP sq n ys
    have HLL := Lib.hid (And.intro hls hly)
    have HTT := Lib.hid ((subL_tab hp sq n xs).append (subL_tab hp sq n ys))
    have HSUB := Lib.hid fun (w' : World) (h : Below w2.heap.size w2 w') => l06Subspace_any P A n c sq X cx xs w' HP hn6 hn0 ((ha.below hB2).below h) HS0.out ((hx.below hB2).below h) HXS.out
    have HSUY := Lib.hid fun (w' : World) (h : Below w2.heap.size w2 w') => l06Subspace_any P A n c sq Y cy ys w' HP hn6 hn0 ((ha.below hB2).below h) HS0.out ((hy.below hB2).below h) HYS.out
    have HBLA := Lib.hid fun (w' : World) (B : Option Addr) (d : Nat) (h : Below w2.heap.size w2 w') (hb : RdII w' B ((subL P sq n xs).length + (subL P sq n ys).length) (subL P sq n xs ++ subL P sq n ys)) => l06Blade_any P A n c sq B _ d _ w' HP hn6 hn0 (by omega) ((ha.below hB2).below h) HS0.out hb HTT.out
    clear hls hly HTT
    obtain ⟨LJ, hLJ⟩ : ∃ R, R = blaL P sq n (subL P sq n xs ++ subL P sq n ys) := ⟨_, rfl⟩
    rw [← hLJ] at HOK HBLA
    obtain ⟨LA, hLA⟩ : ∃ R, R = subL P sq n xs := ⟨_, rfl⟩
    obtain ⟨LB, hLB⟩ : ∃ R, R = subL P sq n ys := ⟨_, rfl⟩
    rw [← hLA] at HSUB
    rw [← hLB] at HSUY
    rw [← hLA, ← hLB] at HBLA HLL
    clear hLJ hLA hLB
    go_wp2
    refine wp_obsD 11 w2.heap.size [[], [], [], [1, 2], [], [], [1, 2, 3, 4, 5], [1, 2, 3, 4, 5, 6], [0, 1, 2, 3, 4, 5, 6, 7], [0, 1, 2, 3, 4, 5, 6, 7, 8], []] [[], [], [], [], [], [], [], [3, 6], [], [], []] (fun x => [VIs (.agg #[.int .i64 P, .slice A n c]), VIs (.agg #[.int .i64 P, .slice A n c]), VIs (.slice X (pw n) cx), VMat w2 LA.length LA, VIs (.agg #[.int .i64 P, .slice A n c]), VIs (.slice Y (pw n) cy), VTwo w2 LA.length LA LB.length LB (x 3), VMat w2 (LA.length + LB.length) (LA ++ LB), VSl w2 (pw n) LJ, VSl w2 (pw n) LJ, VIs (.int .i64 0)]) (fun w' => Blk w' w.heap.size 26 #[.int .i64 P, .slice A n c] ∧ Below w2.heap.size w2 w') (by kernel_rfl) (by kernel_rfl) (fun x x' j hx => by
        rcases j with _ | _ | _ | _ | _ | _ | _ | _ | _ | _ | _ | j
        · rfl
        · rfl
        · rfl
        · rfl
        · rfl
        · rfl
        · rw [hx 3 (by decide)]
        · rfl
        · rfl
        · rfl
        · rfl
        · rfl)
      (weak_of [0, 1, 2, 4, 5, 10] (by decide) (fun k hk x => by
        simp only [List.mem_cons, List.not_mem_nil, or_false] at hk
        rcases hk with rfl | rfl | rfl | rfl | rfl | rfl <;> exact ⟨_, rfl⟩)) (fun j _ _ h hb => ⟨h.1.below (hb.mono (lim_ge h.2.size)) hkl, h.2.trans (hb.mono (lim_ge h.2.size))⟩) (⟨k2.drew, (Below.refl _ _).drew⟩) (fun x => ?_)
    refine obs_stepD (Eq.trans (by simp only [List.getElem?_toArray, List.getElem?_cons_zero]; exact rfl) rfl) rfl (fun w' hS hV K hK => ?_) ?_
    · obtain ⟨q0, q1⟩ := hS.1.two
      go_simp
      exact hK.out _ _ _ rfl rfl rfl (Below.refl _ _)
    simp only [List.setIfInBounds_toArray, List.set_cons_zero, List.set_cons_succ]
    refine obs_stepD (Eq.trans (by simp only [List.getElem?_toArray, List.getElem?_cons_succ, List.getElem?_cons_zero]; exact rfl) rfl) rfl (fun w' hS hV K hK => ?_) ?_
    · obtain ⟨q0, q1⟩ := hS.1.two
      go_simp
      exact hK.out _ _ _ rfl rfl rfl (Below.refl _ _)
    simp only [List.setIfInBounds_toArray, List.set_cons_zero, List.set_cons_succ]
    refine obs_stepD (Eq.trans (by simp only [List.getElem?_toArray, List.getElem?_cons_succ, List.getElem?_cons_zero]; exact rfl) rfl) rfl (fun w' hS hV K hK => ?_) ?_
    · obtain ⟨q0, q1⟩ := hS.1.two
      go_simp
      exact hK.out _ _ _ rfl rfl rfl (Below.refl _ _)
    simp only [List.setIfInBounds_toArray, List.set_cons_zero, List.set_cons_succ]
    refine obs_stepD (Eq.trans (by simp only [List.getElem?_toArray, List.getElem?_cons_succ, List.getElem?_cons_zero]; exact rfl) rfl) rfl (fun w' hS hV K hK => ?_) ?_
    · have e1 : x 1 = (.agg #[.int .i64 P, .slice A n c]) := hV 1 (by decide)
      have e2 : x 2 = (.slice X (pw n) cx) := hV 2 (by decide)
      obtain ⟨q0, q1⟩ := hS.1.two
      go_simp
      refine (HSUB.out w' hS.2).mono ?_
      rintro e v1 ⟨A2, c2, rfl, hM⟩
      exact hK.out _ _ _ rfl rfl ⟨_, _, rfl, hM.after hS.2⟩ hM.b
    simp only [List.setIfInBounds_toArray, List.set_cons_zero, List.set_cons_succ]
    refine obs_stepD (Eq.trans (by simp only [List.getElem?_toArray, List.getElem?_cons_succ, List.getElem?_cons_zero]; exact rfl) rfl) rfl (fun w' hS hV K hK => ?_) ?_
    · obtain ⟨q0, q1⟩ := hS.1.two
      go_simp
      exact hK.out _ _ _ rfl rfl rfl (Below.refl _ _)
    simp only [List.setIfInBounds_toArray, List.set_cons_zero, List.set_cons_succ]
    refine obs_stepD (Eq.trans (by simp only [List.getElem?_toArray, List.getElem?_cons_succ, List.getElem?_cons_zero]; exact rfl) rfl) rfl (fun w' hS hV K hK => ?_) ?_
    · obtain ⟨q0, q1⟩ := hS.1.two
      go_simp
      exact hK.out _ _ _ rfl rfl rfl (Below.refl _ _)
    simp only [List.setIfInBounds_toArray, List.set_cons_zero, List.set_cons_succ]
    refine obs_stepD (Eq.trans (by simp only [List.getElem?_toArray, List.getElem?_cons_succ, List.getElem?_cons_zero]; exact rfl) rfl) rfl (fun w' hS hV K hK => ?_) ?_
    · have e1 : x 1 = (.agg #[.int .i64 P, .slice A n c]) := hV 1 (by decide)
      have e2 : x 2 = (.slice X (pw n) cx) := hV 2 (by decide)
      obtain ⟨A3, c3, e3, h3⟩ := hV 3 (by decide)
      have e4 : x 4 = (.agg #[.int .i64 P, .slice A n c]) := hV 4 (by decide)
      have e5 : x 5 = (.slice Y (pw n) cy) := hV 5 (by decide)
      obtain ⟨q0, q1⟩ := hS.1.two
      go_simp
      refine (HSUY.out w' hS.2).mono ?_
      rintro e v1 ⟨A2, c2, rfl, hM⟩
      exact hK.out _ _ _ rfl rfl ⟨_, _, _, _, e3, rfl, MkII2.of_first h3 hM⟩ hM.b
    simp only [List.setIfInBounds_toArray, List.set_cons_zero, List.set_cons_succ]
    refine obs_stepD (Eq.trans (by simp only [List.getElem?_toArray, List.getElem?_cons_succ, List.getElem?_cons_zero]; exact rfl) rfl) rfl (fun w' hS hV K hK => ?_) ?_
    · have e1 : x 1 = (.agg #[.int .i64 P, .slice A n c]) := hV 1 (by decide)
      have e2 : x 2 = (.slice X (pw n) cx) := hV 2 (by decide)
      obtain ⟨A3, c3, e3, h3⟩ := hV 3 (by decide)
      have e4 : x 4 = (.agg #[.int .i64 P, .slice A n c]) := hV 4 (by decide)
      have e5 : x 5 = (.slice Y (pw n) cy) := hV 5 (by decide)
      obtain ⟨A6, c6, B6, d6, e3, e6, h6⟩ := hV 6 (by decide)
      obtain ⟨q0, q1⟩ := hS.1.two
      refine wp_appRows w2 w' _ _ rfl A6 LA.length c6 LA B6 LB.length d6 LB h6 (by have := HLL.out; omega) e3 e6 ?_
      intro A' c' w'' hM hgr
      exact hK.out _ _ _ rfl rfl ⟨_, _, rfl, hM⟩ (h6.grown_below hgr (Below.refl _ _) (Nat.le_refl _))
    simp only [List.setIfInBounds_toArray, List.set_cons_zero, List.set_cons_succ]
    refine obs_stepD (Eq.trans (by simp only [List.getElem?_toArray, List.getElem?_cons_succ, List.getElem?_cons_zero]; exact rfl) rfl) rfl (fun w' hS hV K hK => ?_) ?_
    · have e0 : x 0 = (.agg #[.int .i64 P, .slice A n c]) := hV 0 (by decide)
      have e1 : x 1 = (.agg #[.int .i64 P, .slice A n c]) := hV 1 (by decide)
      have e2 : x 2 = (.slice X (pw n) cx) := hV 2 (by decide)
      have e4 : x 4 = (.agg #[.int .i64 P, .slice A n c]) := hV 4 (by decide)
      have e5 : x 5 = (.slice Y (pw n) cy) := hV 5 (by decide)
      obtain ⟨A7, c7, e7, h7⟩ := hV 7 (by decide)
      obtain ⟨q0, q1⟩ := hS.1.two
      go_simp
      refine (HBLA.out w' _ _ hS.2 h7.rd).mono ?_
      rintro e v1 ⟨A2, c2, rfl, hM⟩
      exact hK.out _ _ _ rfl rfl ⟨_, _, rfl, hM.after hS.2⟩ hM.b
    simp only [List.setIfInBounds_toArray, List.set_cons_zero, List.set_cons_succ]
    refine obs_stepD (Eq.trans (by simp only [List.getElem?_toArray, List.getElem?_cons_succ, List.getElem?_cons_zero]; exact rfl) rfl) rfl (fun w' hS hV K hK => ?_) ?_
    · have e0 : x 0 = (.agg #[.int .i64 P, .slice A n c]) := hV 0 (by decide)
      have e1 : x 1 = (.agg #[.int .i64 P, .slice A n c]) := hV 1 (by decide)
      have e2 : x 2 = (.slice X (pw n) cx) := hV 2 (by decide)
      have e4 : x 4 = (.agg #[.int .i64 P, .slice A n c]) := hV 4 (by decide)
      have e5 : x 5 = (.slice Y (pw n) cy) := hV 5 (by decide)
      obtain ⟨A7, c7, e7, h7⟩ := hV 7 (by decide)
      obtain ⟨A8, c8, e8, h8⟩ := hV 8 (by decide)
      obtain ⟨q0, q1⟩ := hS.1.two
      go_simp
      exact hK.out _ _ _ rfl rfl ⟨_, _, rfl, h8⟩ (Below.refl _ _)
    simp only [List.setIfInBounds_toArray, List.set_cons_zero, List.set_cons_succ]
    refine obs_stepD (Eq.trans (by simp only [List.getElem?_toArray, List.getElem?_cons_succ, List.getElem?_cons_zero]; exact rfl) rfl) rfl (fun w' hS hV K hK => ?_) ?_
    · obtain ⟨q0, q1⟩ := hS.1.two
      go_simp
      exact hK.out _ _ _ rfl rfl rfl (Below.refl _ _)
    simp only [List.setIfInBounds_toArray, List.set_cons_zero, List.set_cons_succ]
    refine fun w' hS hV => ?_
    have e0 : x 0 = (.agg #[.int .i64 P, .slice A n c]) := hV 0 (by decide)
    have e1 : x 1 = (.agg #[.int .i64 P, .slice A n c]) := hV 1 (by decide)
    have e2 : x 2 = (.slice X (pw n) cx) := hV 2 (by decide)
    have e4 : x 4 = (.agg #[.int .i64 P, .slice A n c]) := hV 4 (by decide)
    have e5 : x 5 = (.slice Y (pw n) cy) := hV 5 (by decide)
    obtain ⟨A7, c7, e7, h7⟩ := hV 7 (by decide)
    obtain ⟨A8, c8, e8, h8⟩ := hV 8 (by decide)
    obtain ⟨A9, c9, e9, h9⟩ := hV 9 (by decide)
    have e10 : x 10 = (.int .i64 0) := hV 10 (by decide)
    simp only [e0, e1, e2, e4, e5, e7, e8, e9, e10]
    clear e0 e1 e2 e4 e5 e7 e8 e9 e10
    refine wpAny_done (by kernel_rfl) ?_ _
    go_wp2
    go_ret2
    exact aRow3 HOK.out (h9.after hB2)
  · obtain ⟨r, hr⟩ : ∃ r, r = codeL P sq [xs, ys] := ⟨_, rfl⟩
    have HR := Lib.hid hr
    have HR0 := Lib.hid hr0
    have b0 : (r != 0) = true := code_ne (by rw [hr]; exact hr0)
    rw [← hr] at hreg
    clear hr hr0
    go_enter Tryz.func78, Tryz.ntmps78
    go_wp2_with fail
    refine hreg.mono ?_
    rintro e w2 ⟨rfl, hb2⟩
    have hB2 := hB1.trans (hb2.mono hB1.size)
    have k2 := k1.below hb2 k1.lt
    obtain ⟨q0, q1⟩ := k2.two
    clear k0 hB0 k1 hB1 hb2
    go_wp2
    go_ret2
    exact noRow3 (by rw [joiR_bad HR0.out, HR.out]) hB2
end Go.Proofs.YtggigolkncckoaaGreat

/-
  LawFnCayleys: part 5 of the texts that the proof needs. No condition.
-/
import Derived.Test.YtdbibmilicjllaaGreatP4
namespace Go.Proofs.YtdbibmilicjllaaGreat
section
variable {p : Int} {n : Nat}
theorem Cl.sm_cancel (hP : isP p = true) {sq : List Int} {x : Int} (hx : x % p ≠ 0) {a b : Cl p sq} (h : x * a = x * b) : a = b := by
  have h1 := Cl.sm_inv hP hx (rfl : x * a = x * a)
  have h2 := Cl.sm_inv hP hx (rfl : x * b = x * b)
  rw [h1, h2, h]
theorem Cl.prod_dclr (hp : 0 < p) (hP : isP p = true) {m : List (List Int)} (hT : Tab p n m) {i : Nat} (hi : i < m.length) : ∀ k, i + 1 + k ≤ m.length → (Cl.prod hp (dClr p m i (i + 1 + k)) : Cl p (zs n)) = Cl.prod hp m := by
  intro k
  induction k with
  | zero => intro _; rw [Nat.add_zero, dClr_start]
  | succ k ih =>
    intro hk
    rw [← Nat.add_assoc, dClr_succ (by omega) (by omega)]
    have e1 : m.getD (i + 1 + k) [] = (dClr p m i (i + 1 + k)).getD (i + 1 + k) [] := by rw [dClr_getD (by omega), if_neg (by omega)]
    have e2 : m.getD i [] = (dClr p m i (i + 1 + k)).getD i [] := by rw [dClr_getD hi, if_neg (by omega)]
    unfold dRow
    rw [e1, e2, Cl.prod_plus hp hP (dClr_tab hp hT i _) (by rw [dClr_len]; omega) (by rw [dClr_len]; exact hi) (by omega)]
    exact ih (by omega)
def diagP (m : List (List Int)) : Nat → Int
  | 0 => 1
  | k + 1 => diagP m k * ent m k k
theorem diagP_congr {m m' : List (List Int)} : ∀ k, (∀ r, r < k → ent m r r = ent m' r r) → diagP m k = diagP m' k := by
  intro k
  induction k with
  | zero => intro _; rfl
  | succ k ih => intro h; show diagP m k * ent m k k = diagP m' k * ent m' k k; rw [ih fun r hr => h r (by omega), h k (by omega)]
/-- Zeros below the diagonal in the first i columns. -/
def Upr (m : List (List Int)) (i : Nat) : Prop := ∀ r c, c < i → c < r → r < m.length → ent m r c = 0
theorem tri_row (hp : 0 < p) (hP : isP p = true) {m : List (List Int)} (hT : Tab p n m) (hl : m.length = n) (hU : Upr m n) {k : Nat} (hk : k < n) :
    (Cl.vec hp (m.getD k []) : Cl p (zs n)) * Cl.prod hp ((unitM n).drop (k + 1)) = ent m k k * (Cl.vec hp (unitRow n k) * Cl.prod hp ((unitM n).drop (k + 1))) := by
  have h3 := isP_ge hP
  obtain ⟨v, hv⟩ : ∃ v, v = plusL p (m.getD k []) (unitRow n k) (-(ent m k k)) := ⟨_, rfl⟩
  have hml := (hT.row (show k < m.length by omega)).1
  have hlen : ((unitM n).drop (k + 1)).length = n - (k + 1) := by rw [List.length_drop, unitM_len]
  have hentd : ∀ i, i < n - (k + 1) → ∀ q, q < n → ent ((unitM n).drop (k + 1)) i q = if k + 1 + i = q then 1 else 0 := fun i hi q hq => by
    have e : ((unitM n).drop (k + 1)).getD i [] = (unitM n).getD (k + 1 + i) [] := by
      rw [List.getD_eq_getElem?_getD, List.getD_eq_getElem?_getD, List.getElem?_drop]
    unfold ent
    rw [e, unitM_getD (by omega), unitRow_getD hq]
  have hvq : ∀ q, q < n → v.getD q 0 % p = (if q ≤ k then 0 else ent m k q) % p := fun q hq => by
    rw [hv, plusL_getD _ _ (by omega), unitRow_getD hq, cg_self]
    congr 1
    show ent m k q + _ = _
    by_cases h1 : q = k
    · subst h1; rw [if_pos rfl, if_pos (Nat.le_refl _)]; omega
    · rw [if_neg fun e => h1 e.symm]
      by_cases h2 : q ≤ k
      · rw [if_pos h2, hU k q (by omega) (by omega) (by omega)]; omega
      · rw [if_neg h2]; omega
  have hsp : Sp p n ((unitM n).drop (k + 1)) fun q => v.getD q 0 := by
    refine ⟨fun i => ent m k (k + 1 + i), fun q hq => ?_⟩
    show v.getD q 0 % p = _
    rw [hvq q hq, hlen]
    by_cases h : q ≤ k
    · rw [if_pos h, sumTo_zero fun i hi => ?_]
      rw [hentd i hi q hq, if_neg (by omega), Int.mul_zero]
    · rw [if_neg h, sumTo_one (q - (k + 1)) (by omega) fun i hi hne => ?_]
      · rw [hentd _ (by omega) q hq, if_pos (by omega), Int.mul_one]
        show ent m k q % p = ent m k (k + 1 + (q - (k + 1))) % p
        rw [show k + 1 + (q - (k + 1)) = q by omega]
      · rw [hentd i hi q hq, if_neg (by omega), Int.mul_zero]
  have hz := Cl.span_prod hp hP (v := v) hsp
  rw [hv, Cl.vec_plus hp (hml.trans (zs_len n).symm), Cl.add_mul, Cl.sm_mul] at hz
  have h9 := Cl.move hz
  rw [Int.neg_neg, Cl.zero_addz] at h9
  exact h9
def sfxP (m : List (List Int)) (n : Nat) : Nat → Int
  | 0 => 1
  | j + 1 => ent m (n - (j + 1)) (n - (j + 1)) * sfxP m n j
theorem sfx_diag (m : List (List Int)) (n : Nat) : ∀ j, j ≤ n → diagP m (n - j) * sfxP m n j = diagP m n := by
  intro j
  induction j with
  | zero => intro _; show diagP m n * 1 = _; rw [Int.mul_one]
  | succ j ih =>
    intro hj
    rw [← ih (by omega)]
    have e : n - j = (n - (j + 1)) + 1 := by omega
    rw [e]
    show _ * (_ * sfxP m n j) = diagP m (n - (j + 1)) * ent m (n - (j + 1)) (n - (j + 1)) * sfxP m n j
    rw [Int.mul_assoc]
theorem tri_prod (hp : 0 < p) (hP : isP p = true) {m : List (List Int)} (hT : Tab p n m) (hl : m.length = n) (hU : Upr m n) : (Cl.prod hp m : Cl p (zs n)) = diagP m n * Cl.prod hp (unitM n) := by
  have key : ∀ j, j ≤ n → (Cl.prod hp (m.drop (n - j)) : Cl p (zs n)) = sfxP m n j * Cl.prod hp ((unitM n).drop (n - j)) := by
    intro j
    induction j with
    | zero =>
      intro _
      rw [Nat.sub_zero, List.drop_eq_nil_of_le (by omega), List.drop_eq_nil_of_le (by rw [unitM_len]; omega)]
      rw [show sfxP m n 0 = 1 from rfl, Cl.one_sm]
    | succ j ih =>
      intro hj
      have hk : n - (j + 1) < n := by omega
      have e : n - j = (n - (j + 1)) + 1 := by omega
      have h1 := ih (by omega)
      rw [e] at h1
      have d1 : m.drop (n - (j + 1)) = m.getD (n - (j + 1)) [] :: m.drop (n - (j + 1) + 1) := by
        rw [List.drop_eq_getElem_cons (by omega), getD_of_lt [] (by omega)]
      have d2 : (unitM n).drop (n - (j + 1)) = unitRow n (n - (j + 1)) :: (unitM n).drop (n - (j + 1) + 1) := by
        rw [List.drop_eq_getElem_cons (by rw [unitM_len]; omega), unitM_get]
      rw [d1, d2, Cl.prod_cons, Cl.prod_cons, h1, Cl.mul_sm, tri_row hp hP hT hl hU hk, Cl.sm_sm]
      rw [show sfxP m n (j + 1) = ent m (n - (j + 1)) (n - (j + 1)) * sfxP m n j from rfl, Int.mul_comm (sfxP m n j)]
  have h := key n (Nat.le_refl _)
  rw [Nat.sub_self, List.drop_zero, List.drop_zero] at h
  have h2 := sfx_diag m n n (Nat.le_refl _)
  rw [Nat.sub_self] at h2
  have h3 : diagP m 0 = 1 := rfl
  rw [h3, Int.one_mul] at h2
  rw [h, h2]
/-- No number other than 0 in column i from row i on: the product is 0. -/
theorem no_pivot (hp : 0 < p) (hP : isP p = true) {m : List (List Int)} (hT : Tab p n m) (hl : m.length = n) {i : Nat} (hi : i < n) (hU : Upr m i) (h0 : ∀ r, i ≤ r → r < n → ent m r i = 0) : (Cl.prod hp m : Cl p (zs n)) = Cl.zero hp := by
  have hd : (Cl.prod hp (m.drop i) : Cl p (zs n)) = Cl.zero hp := by
    have hTd : Tab p n (m.drop i) := fun x hx => hT x (List.mem_of_mem_drop hx)
    rcases Cl.prod_basis hp hP hTd with h | ⟨h1, -⟩
    · exact h
    · exfalso
      have hR := basisL_red hP _ hTd
      have hin : InSp p n (m.drop i) ((unitM n).drop (i + 1)) := fun r hr => by
        rw [List.length_drop, hl] at hr
        have er : ∀ q, ent (m.drop i) r q = ent m (i + r) q := fun q => by
          have e : (m.drop i).getD r [] = m.getD (i + r) [] := by rw [List.getD_eq_getElem?_getD, List.getD_eq_getElem?_getD, List.getElem?_drop]
          unfold ent
          rw [e]
        have eu : ∀ t, t < n - (i + 1) → ∀ q, q < n → ent ((unitM n).drop (i + 1)) t q = if i + 1 + t = q then 1 else 0 := fun t ht q hq => by
          have e : ((unitM n).drop (i + 1)).getD t [] = (unitM n).getD (i + 1 + t) [] := by
            rw [List.getD_eq_getElem?_getD, List.getD_eq_getElem?_getD, List.getElem?_drop]
          unfold ent
          rw [e, unitM_getD (by omega), unitRow_getD hq]
        have hlen : ((unitM n).drop (i + 1)).length = n - (i + 1) := by rw [List.length_drop, unitM_len]
        refine ⟨fun t => ent m (i + r) (i + 1 + t), fun q hq => ?_⟩
        show ent (m.drop i) r q % p = _
        rw [er q, hlen]
        by_cases h : q ≤ i
        · have hz : ent m (i + r) q = 0 := by
            by_cases h2 : q = i
            · rw [h2]; exact h0 _ (by omega) (by omega)
            · exact hU _ _ (by omega) (by omega) (by omega)
          rw [hz, sumTo_zero fun t ht => ?_]
          rw [eu t ht q hq, if_neg (by omega), Int.mul_zero]
        · rw [sumTo_one (q - (i + 1)) (by omega) fun t ht hne => ?_]
          · rw [eu _ (by omega) q hq, if_pos (by omega), Int.mul_one]
            show ent m (i + r) q % p = ent m (i + r) (i + 1 + (q - (i + 1))) % p
            rw [show i + 1 + (q - (i + 1)) = q by omega]
          · rw [eu t ht q hq, if_neg (by omega), Int.mul_zero]
      have hle := (Red.ind (p := p) hR).le hP (M := (unitM n).drop (i + 1)) ((basisL_in hP _ hTd).1.trans hin)
      rw [h1, List.length_drop, List.length_drop, unitM_len, hl] at hle
      omega
  rw [← List.take_append_drop i m, Cl.prod_append, hd, Cl.mul_zero]
theorem piv_none {m : List (List Int)} {k : Nat} : ∀ (f d : Nat), piv m k f d = d + f → ∀ r, d ≤ r → r < d + f → ent m r k = 0 := by
  intro f
  induction f with
  | zero => intro d _ r h1 h2; omega
  | succ f ih =>
    intro d h r h1 h2
    have e : piv m k (f + 1) d = if ent m d k = 0 then piv m k f (d + 1) else d := rfl
    rw [e] at h
    by_cases h3 : ent m d k = 0
    · rw [if_pos h3] at h
      by_cases h4 : r = d
      · rw [h4]; exact h3
      · exact ih (d + 1) (by omega) r (by omega) (by omega)
    · rw [if_neg h3] at h; omega
theorem det_go (hp : 0 < p) (hP : isP p = true) : ∀ (f : Nat) (m : List (List Int)) (i : Nat) (out : Int), i + f = n → Tab p n m → m.length = n → Upr m i →
    out * (Cl.prod hp m : Cl p (zs n)) = (diagP m i * detF p f m i out) * Cl.prod hp (unitM n) := by
  have h3 := isP_ge hP
  intro f
  induction f with
  | zero =>
    intro m i out hi hT hl hU
    obtain rfl : i = n := by omega
    rw [show detF p 0 m i out = out from rfl, tri_prod hp hP hT hl hU, Cl.sm_sm, Int.mul_comm]
  | succ f ih =>
    intro m i out hi hT hl hU
    have hin : i < n := by omega
    obtain ⟨hb1, hb2⟩ := pivOf_bound m i i (by omega)
    by_cases hv : pivOf m i i = m.length
    · rw [detF_none hv, no_pivot hp hP hT hl hin hU (fun r h1 h2 => piv_none (m.length - i) i (by unfold pivOf at hv; omega) r h1 (by omega)), Cl.sm_zero, Int.mul_zero, Cl.zero_sm]
    · rw [detF_step hv]
      obtain ⟨k, hk⟩ : ∃ k, k = pivOf m i i := ⟨_, rfl⟩
      have hx0 : ent m k i ≠ 0 := by rw [hk]; exact piv_at m i _ _ (by unfold pivOf at hv hb2; omega)
      rw [← hk] at hb1 hb2 hv ⊢
      have hkl : k < m.length := by omega
      have hil : i < m.length := by omega
      obtain ⟨m1, hm1⟩ : ∃ m1, m1 = swapL m i k := ⟨_, rfl⟩
      have hT1 : Tab p n m1 := by rw [hm1]; exact swapL_tab hT hil hkl
      have hl1 : m1.length = n := by rw [hm1, swapL_len, hl]
      have hpr1 : (Cl.prod hp m1 : Cl p (zs n)) = swSg i k * Cl.prod hp m := by rw [hm1]; exact Cl.prod_swap' hp hP hT hil hkl
      have hent : ∀ r q, ent m1 r q = if r = k then ent m i q else if r = i then ent m k q else ent m r q := fun r q => by rw [hm1]; exact ent_swap hil hkl r q
      rw [← hm1]
      have hx1 : ent m1 i i = ent m k i := by
        rw [hent]
        by_cases e : i = k
        · rw [if_pos e, e]
        · rw [if_neg e, if_pos rfl]
      obtain ⟨x, hx⟩ : ∃ x, x = ent m k i := ⟨_, rfl⟩
      have hxb := hT.ent hp k i
      rw [← hx] at hx0 hx1 hxb
      rw [hx1, hl]
      have hxn : x % p ≠ 0 := by rw [Int.emod_eq_of_lt hxb.1 hxb.2]; exact hx0
      have hpr2 : (Cl.prod hp (dClr p m1 i n) : Cl p (zs n)) = Cl.prod hp m1 := by
        have := Cl.prod_dclr hp hP hT1 (i := i) (by omega) (n - (i + 1)) (by omega)
        rwa [show i + 1 + (n - (i + 1)) = n by omega] at this
      have hU1 : ∀ r c, c < i → c < r → r < n → ent m1 r c = 0 := fun r c h1 h2 h4 => by
        rw [hent]
        split
        · exact hU i c h1 h1 hil
        · split
          · exact hU k c h1 (by omega) hkl
          · exact hU r c h1 h2 (by omega)
      have hrow : ∀ r c, r ≤ i → ent (dClr p m1 i n) r c = ent m1 r c := fun r c hr => by
        unfold ent; rw [dClr_getD (by omega), if_neg (by omega)]
      have hU2 : Upr (dClr p m1 i n) (i + 1) := fun r c h1 h2 h4 => by
        rw [dClr_len, hl1] at h4
        by_cases hri : r ≤ i
        · rw [hrow r c hri]; exact hU1 r c (by omega) h2 h4
        · have e : (dClr p m1 i n).getD r [] = dRow p m1 i r := by rw [dClr_getD (by omega), if_pos ⟨by omega, h4⟩]
          unfold ent
          rw [e]
          unfold dRow
          rw [plusL_getD _ _ (by rw [(hT1.row (by omega)).1]; omega)]
          show (ent m1 r c + -(ent m1 r i) * invF p (ent m1 i i) * ent m1 i c) % p = 0
          by_cases hc : c = i
          · subst hc
            rw [hx1]
            have hi9 := inv_one hP hxb hx0
            obtain ⟨t, ht⟩ := cg_wit.1 hi9
            obtain ⟨y, hy⟩ : ∃ y, y = ent m1 r c := ⟨_, rfl⟩
            rw [← hy]
            exact (cg_wit.2 ⟨-(y * t), by
              have e2 : y + -y * invF p x * x = y - y * (x * invF p x) := by grind
              rw [e2, ht]; grind⟩).trans (Int.zero_emod p)
          · rw [hU1 r c (by omega) h2 h4, hU1 i c (by omega) (by omega) hin]
            simp
      have hIH := ih (dClr p m1 i n) (i + 1) ((if k = i then out else (-out) % p) * x % p) (by omega) (dClr_tab hp hT1 _ _) (by rw [dClr_len, hl1]) hU2
      have hdg : diagP (dClr p m1 i n) (i + 1) = diagP m i * x := by
        show diagP (dClr p m1 i n) i * ent (dClr p m1 i n) i i = _
        rw [hrow i i (Nat.le_refl _), hx1, diagP_congr (m' := m) i fun r hr => by rw [hrow r r (by omega), hent, if_neg (by omega), if_neg (by omega)]]
      rw [hdg, hpr2, hpr1, Cl.sm_sm] at hIH
      obtain ⟨D, hD⟩ : ∃ D, D = detF p f (dClr p m1 i n) (i + 1) ((if k = i then out else (-out) % p) * x % p) := ⟨_, rfl⟩
      rw [← hD] at hIH ⊢
      have hsg : ((if k = i then out else (-out) % p) * x % p * swSg i k) % p = (x * out) % p := by
        refine (cg_mul (cg_self _ _) rfl).trans ?_
        unfold swSg
        by_cases e : k = i
        · rw [if_pos e, if_pos e.symm, Int.mul_one, Int.mul_comm]
        · rw [if_neg e, if_neg fun h => e h.symm]
          refine (cg_mul (cg_mul (cg_self (a := -out) _) rfl) rfl).trans ?_
          congr 1; grind
      rw [Cl.sm_cg hsg] at hIH
      refine Cl.sm_cancel hP hxn ?_
      rw [Cl.sm_sm, hIH, Cl.sm_sm]
      congr 1
      grind
/-- The outer product of the rows. -/
theorem prod_det (hp : 0 < p) (hP : isP p = true) {m : List (List Int)} (hT : Tab p n m) (hl : m.length = n) : (Cl.prod hp m : Cl p (zs n)) = detL p m * Cl.prod hp (unitM n) := by
  have h := det_go hp hP n m 0 1 (by omega) hT hl (fun r c h => by omega)
  rw [Cl.one_sm] at h
  rw [h]
  unfold detL
  rw [hl]
  rw [show diagP m 0 = 1 from rfl, Int.one_mul]
end
end Go.Proofs.YtdbibmilicjllaaGreat
namespace Go.Proofs.YtdbibmilicjllaaGreat
theorem Ind.snoc' {p : Int} {n : Nat} (hP : isP p = true) {B : List (List Int)} {v : List Int} (hI : Ind p n B) (h : ¬ Sp p n B (fun q => v.getD q 0)) : Ind p n (B ++ [v]) := fun c hc => by
  have hsum : ∀ q, q < n → (sumTo B.length (fun i => c i * ent B i q) + c B.length * v.getD q 0) % p = 0 := fun q hq => by
    have h1 := hc q hq
    rw [List.length_append, List.length_singleton, sumTo_succ] at h1
    refine Eq.trans ?_ h1
    congr 1
    congr 1
    · refine sumTo_congr fun i hi => ?_
      unfold ent; rw [getD_app_left [] _ hi]
    · unfold ent
      have e9 : (B ++ [v]).getD B.length [] = v := by
        rw [List.getD_eq_getElem?_getD, List.getElem?_append_right (Nat.le_refl _)]
        simp
      rw [e9]
  have h0 : c B.length % p = 0 := Classical.byContradiction fun hne => h (by
    refine ⟨fun i => -(invF p (c B.length % p)) * c i, fun q hq => ?_⟩
    have hi := inv_mod hP hne
    obtain ⟨t, ht⟩ := cg_wit.1 ((hsum q hq).trans (Int.zero_emod p).symm)
    have h3 := isP_ge hP
    obtain ⟨s, hs⟩ := cg_wit.1 (hi.trans (Int.emod_eq_of_lt (a := 1) (by omega) (by omega)).symm)
    have e1 : (sumTo B.length fun i => -(invF p (c B.length % p)) * c i * ent B i q) = -(invF p (c B.length % p)) * sumTo B.length (fun i => c i * ent B i q) := by
      rw [← sumTo_mul]
      exact sumTo_congr fun i _ => Int.mul_assoc _ _ _
    rw [e1]
    obtain ⟨S, hS⟩ : ∃ S, S = sumTo B.length (fun i => c i * ent B i q) := ⟨_, rfl⟩
    obtain ⟨I, hI⟩ : ∃ I, I = invF p (c B.length % p) := ⟨_, rfl⟩
    obtain ⟨C, hC⟩ : ∃ C, C = c B.length := ⟨_, rfl⟩
    obtain ⟨V, hV⟩ : ∃ V, V = v.getD q 0 := ⟨_, rfl⟩
    rw [← hI, ← hC] at hs
    rw [← hS, ← hC, ← hV] at ht
    show v.getD q 0 % p = _
    rw [← hV, ← hI, ← hS]
    refine cg_wit.2 ⟨I * t - s * V, ?_⟩
    have e2 : S = p * t - C * V := by omega
    rw [e2]
    clear e1 e2 ht hi hsum hc
    grind)
  have h1 : ∀ i, i < B.length → c i % p = 0 := hI c fun q hq => by
    have h2 := hsum q hq
    obtain ⟨t, ht⟩ := cg_wit.1 (h0.trans (Int.zero_emod p).symm)
    rw [ht] at h2
    obtain ⟨S, hS⟩ : ∃ S, S = sumTo B.length (fun i => c i * ent B i q) := ⟨_, rfl⟩
    rw [← hS] at h2 ⊢
    obtain ⟨s, hs⟩ := cg_wit.1 (h2.trans (Int.zero_emod p).symm)
    exact (cg_wit.2 ⟨s - t * v.getD q 0, by grind⟩).trans (Int.zero_emod p)
  intro i hi
  rw [List.length_append, List.length_singleton] at hi
  rcases Nat.lt_or_ge i B.length with h2 | h2
  · exact h1 i h2
  · obtain rfl : i = B.length := by omega
    exact h0
section
variable {p : Int} {n : Nat}
/-- An alternating function of as many rows as columns. -/
structure Alt (hp : 0 < p) (F : List (List Int) → Cl p (zs n)) : Prop where
  swap : ∀ m, Tab p n m → m.length = n → ∀ i j, i < n → j < n → F (swapL m i j) = swSg i j * F m
  plus : ∀ m, Tab p n m → m.length = n → ∀ j d k, j < n → d < n → j ≠ d → F (m.set j (plusL p (m.getD j []) (m.getD d []) k)) = F m
  scale : ∀ m, Tab p n m → m.length = n → ∀ j k, j < n → F (m.set j (scaleL p (m.getD j []) k)) = k * F m
  zero : ∀ m, Tab p n m → m.length = n → ∀ r, r < n → (∀ q, q < n → ent m r q = 0) → F m = Cl.zero hp
theorem Alt.prod (hp : 0 < p) (hP : isP p = true) : Alt (n := n) hp (fun m => Cl.prod hp m) where
  swap := fun m hT hl i j hi hj => Cl.prod_swap' hp hP hT (by omega) (by omega)
  plus := fun m hT hl j d k hj hd hjd => Cl.prod_plus hp hP hT (by omega) (by omega) hjd k
  scale := fun m hT hl j k hj => by
    show (Cl.prod hp _ : Cl p (zs n)) = _
    rw [Cl.set_scale hp m (by omega) ((hT.row (by omega)).1.trans (zs_len n).symm), set_self m (by omega)]
  zero := fun m hT hl r hr h0 => by
    show (Cl.prod hp m : Cl p (zs n)) = _
    rw [Cl.prod_split hp m (show r < m.length by omega), Cl.vec_none hp (v := m.getD r []) (fun q hq => ?_), Cl.zero_mul, Cl.mul_zero]
    rw [zs_len] at hq
    have := h0 q hq
    unfold ent at this
    rw [this]; rfl
theorem Alt.clear {hp : 0 < p} {F : List (List Int) → Cl p (zs n)} (A : Alt hp F) {m : List (List Int)} (hT : Tab p n m) (hl : m.length = n) {d k : Nat} (hd : d < n) : ∀ j, j ≤ n → F (clearTo p m d k j) = F m := by
  intro j
  induction j with
  | zero => intro _; rw [clearTo_zero]
  | succ j ih =>
    intro hj
    by_cases h : j = d
    · subst h; rw [clearTo_skip]; exact ih (by omega)
    · rw [clearTo_succ p m d k j (by omega) h]
      have e1 : m.getD j [] = (clearTo p m d k j).getD j [] := by rw [clearTo_getD (by omega), if_neg (by omega)]
      have e2 : m.getD d [] = (clearTo p m d k j).getD d [] := by rw [clearTo_getD (by omega), if_neg (by omega)]
      rw [e1, e2, A.plus _ (clearTo_tab hp hT d k j) (by rw [clearTo_len, hl]) j d _ (by omega) hd h]
      exact ih (by omega)
theorem Alt.step {hp : 0 < p} (hP : isP p = true) {s : List (List Int) × Nat} {k : Nat} (hT : Tab p n s.1) (hl : s.1.length = n) (hd : s.2 ≤ n) : ∃ c : Int, c % p ≠ 0 ∧ ∀ F : List (List Int) → Cl p (zs n), Alt hp F → F (stepB p k s).1 = c * F s.1 := by
  have h3 := isP_ge hP
  unfold stepB
  by_cases h : pivOf s.1 k s.2 = s.1.length
  · rw [if_pos h]
    exact ⟨1, by rw [Int.emod_eq_of_lt (by omega) (by omega)]; decide, fun F _ => (Cl.one_sm _).symm⟩
  · rw [if_neg h]
    obtain ⟨hb1, hb2⟩ := pivOf_bound s.1 k s.2 (by omega)
    have hx : ent s.1 (pivOf s.1 k s.2) k ≠ 0 := piv_at s.1 k _ _ (by unfold pivOf at h hb2; omega)
    have hsl : (scaledAt p s.1 k s.2).length = s.1.length := scaledAt_len _ _ _ _
    have hst := scaledAt_tab (p := p) (k := k) hp hT (show s.2 < s.1.length by omega) (by omega)
    refine ⟨invF p (ent s.1 (pivOf s.1 k s.2) k) * swSg s.2 (pivOf s.1 k s.2), mul_ne hP (unit_inv hP (hT.ent hp _ _) hx) (swSg_ne hP _ _), fun F A => ?_⟩
    show F (clearTo p (scaledAt p s.1 k s.2) s.2 k s.1.length) = _
    rw [A.clear hst (by rw [hsl, hl]) (by omega) _ (by omega)]
    have hw : (swapL s.1 s.2 (pivOf s.1 k s.2)).getD s.2 [] = s.1.getD (pivOf s.1 k s.2) [] := by
      unfold swapL
      rw [getD_set]
      by_cases h : pivOf s.1 k s.2 = s.2
      · rw [if_pos ⟨h, by rw [List.length_set]; omega⟩, h]
      · rw [if_neg fun e => h e.1, getD_set, if_pos ⟨rfl, by omega⟩]
    unfold scaledAt
    rw [← hw, A.scale _ (swapL_tab hT (by omega) (by omega)) (by rw [swapL_len, hl]) _ _ (by omega), A.swap _ hT hl _ _ (by omega) (by omega), Cl.sm_sm]
theorem Alt.basisTo {hp : 0 < p} (hP : isP p = true) {m : List (List Int)} (hT : Tab p n m) (hl : m.length = n) : ∀ k, ∃ c : Int, c % p ≠ 0 ∧ ∀ F : List (List Int) → Cl p (zs n), Alt hp F → F (basisTo p m k).1 = c * F m := by
  have h3 := isP_ge hP
  intro k
  induction k with
  | zero => exact ⟨1, by rw [Int.emod_eq_of_lt (by omega) (by omega)]; decide, fun F _ => (Cl.one_sm _).symm⟩
  | succ k ih =>
    obtain ⟨c, hc, e⟩ := ih
    obtain ⟨t1, t2, t3⟩ := basisTo_inv hp m hT k
    obtain ⟨d, hd, e2⟩ := Alt.step (hp := hp) hP (s := Go.Proofs.YtdbibmilicjllaaGreat.basisTo p m k) (k := k) t1 (by omega) (by omega)
    refine ⟨d * c, mul_ne hP hd hc, fun F A => ?_⟩
    show F (stepB p k (Go.Proofs.YtdbibmilicjllaaGreat.basisTo p m k)).1 = _
    rw [e2 F A, e F A, Cl.sm_sm]
/-- A reduced basis with as many vectors as places is that of the units. -/
theorem full_unit (hP : isP p = true) {B : List (List Int)} (hR : Red n B) (hT : Tab p n B) (hl : B.length = n) : B = unitM n := by
  have h3 := isP_ge hP
  have hin : ∀ v : List Int, v.length = n → Sp p n (unitM n) fun q => v.getD q 0 := fun v hv => by
    refine ⟨fun i => v.getD i 0, fun q hq => ?_⟩
    rw [unitM_len, sumTo_one q hq fun i hi hne => ?_]
    · rw [unitM_ent hq hq, if_pos rfl, Int.mul_one]
    · rw [unitM_ent hi hq, if_neg hne, Int.mul_zero]
  have h1 : InSp p n B (unitM n) := InSp.of_mem fun x hx => hin x (hT x hx).1
  refine Red.unique (by omega) hR (unitM_red n) hT (unitM_tab (by omega) n) h1 (InSp.of_mem fun x hx => Classical.byContradiction fun hn => ?_)
  have hI := Ind.snoc' hP (Red.ind (p := p) hR) hn
  have hx2 := unitM_tab (p := p) (by omega) n x hx
  have hle := hI.le hP (M := unitM n) (InSp.append h1 (InSp.of_mem fun y hy => by rw [List.mem_singleton.1 hy]; exact hin x hx2.1))
  rw [List.length_append, List.length_singleton, unitM_len, hl] at hle
  omega
theorem det_uniq (hp : 0 < p) (h2 : 2 ≤ p) {a b : Int} (h : a * (Cl.prod hp (unitM n) : Cl p (zs n)) = b * Cl.prod hp (unitM n)) : a % p = b % p := by
  have h1 := Cl.prod_at hp h2 (unitM_red n) (unitM_tab h2 n)
  have hM := maskTo_lt (unitM_red n) (unitM n).length (Nat.le_refl _)
  have h3 : (a * Cl.prod hp (unitM n) : Cl p (zs n)).co (maskTo (unitM n) (unitM n).length) % p = (b * Cl.prod hp (unitM n) : Cl p (zs n)).co (maskTo (unitM n) (unitM n).length) % p := by rw [h]
  rw [Cl.sm_co _ _ (by rw [zs_len]; exact hM), Cl.sm_co _ _ (by rw [zs_len]; exact hM), h1, Int.mul_one, Int.mul_one] at h3
  exact h3
/-- An alternating function is the determinant times its value at the units. -/
theorem Alt.all {hp : 0 < p} (hP : isP p = true) {F : List (List Int) → Cl p (zs n)} (A : Alt hp F) {m : List (List Int)} (hT : Tab p n m) (hl : m.length = n) (hn : 0 < n) : F m = detL p m * F (unitM n) := by
  have h3 := isP_ge hP
  obtain ⟨c, hc, e⟩ := Alt.basisTo (hp := hp) hP hT hl n
  have eF := e F A
  have eG := e _ (Alt.prod hp hP)
  have hpd := prod_det hp hP hT hl
  obtain ⟨t1, t2, t3⟩ := basisTo_inv hp m hT n
  obtain ⟨ec, hE⟩ := basisTo_ech hP m hT n (Nat.le_refl _)
  have hl0 := row0_len hT (show 0 < m.length by omega)
  by_cases hfull : (Go.Proofs.YtdbibmilicjllaaGreat.basisTo p m n).2 = n
  · have e4 : basisL p m = (Go.Proofs.YtdbibmilicjllaaGreat.basisTo p m n).1 := by unfold basisL; rw [hl0, hfull, List.take_of_length_le (by omega)]
    have hu := full_unit hP (basisL_red hP m hT) (basisL_tab hp m hT) (by rw [e4]; omega)
    rw [← e4, hu] at eF eG
    have eG' : (Cl.prod hp (unitM n) : Cl p (zs n)) = c * Cl.prod hp m := eG
    rw [hpd, Cl.sm_sm] at eG'
    have h1 := det_uniq (a := 1) (b := c * detL p m) hp (by omega) (by rw [Cl.one_sm]; exact eG')
    rw [eF, Cl.sm_sm, Cl.sm_cg (j := 1) (by rw [Int.mul_comm]; exact h1.symm), Cl.one_sm]
  · have hz : ∀ G : List (List Int) → Cl p (zs n), Alt hp G → G m = Cl.zero hp := fun G AG => by
      refine Cl.sm_cancel hP hc ?_
      rw [← e G AG, Cl.sm_zero]
      exact AG.zero _ t1 (by omega) (Go.Proofs.YtdbibmilicjllaaGreat.basisTo p m n).2 (by omega) fun q hq => hE.rest _ (Nat.le_refl _) (by omega) q hq
    have h1 : (Cl.prod hp m : Cl p (zs n)) = Cl.zero hp := hz _ (Alt.prod hp hP)
    rw [hpd] at h1
    have h2 := det_uniq (a := detL p m) (b := 0) hp (by omega) (by rw [h1, Cl.zero_sm])
    rw [hz F A, Cl.sm_cg (j := 0) h2, Cl.zero_sm]
/-- A linear function of rows. -/
structure Lin (p : Int) (n : Nat) (T : List Int → List Int) : Prop where
  ok : ∀ v, v.length = n → NumsL p v → (T v).length = n ∧ NumsL p (T v)
  plus : ∀ a b k, a.length = n → NumsL p a → b.length = n → NumsL p b → T (plusL p a b k) = plusL p (T a) (T b) k
  scale : ∀ a k, a.length = n → NumsL p a → T (scaleL p a k) = scaleL p (T a) k
theorem map_tab {T : List Int → List Int} (L : Lin p n T) {m : List (List Int)} (hT : Tab p n m) : Tab p n (m.map T) := fun x hx => by
  obtain ⟨v, hv, rfl⟩ := List.mem_map.1 hx
  exact L.ok v (hT v hv).1 (hT v hv).2
theorem map_getD {T : List Int → List Int} {m : List (List Int)} {i : Nat} (hi : i < m.length) : (m.map T).getD i [] = T (m.getD i []) := by
  rw [getD_of_lt [] (by simpa using hi), getD_of_lt [] hi, List.getElem_map]
theorem Alt.map (hp : 0 < p) (hP : isP p = true) {T : List Int → List Int} (L : Lin p n T) : Alt (n := n) hp (fun m => Cl.prod hp (m.map T)) where
  swap := fun m hT hl i j hi hj => by
    show (Cl.prod hp ((swapL m i j).map T) : Cl p (zs n)) = _
    have e : (swapL m i j).map T = swapL (m.map T) i j := by unfold swapL; rw [List.map_set, List.map_set, map_getD (by omega), map_getD (by omega)]
    rw [e, Cl.prod_swap' hp hP (map_tab L hT) (by rw [List.length_map]; omega) (by rw [List.length_map]; omega)]
  plus := fun m hT hl j d k hj hd hjd => by
    show (Cl.prod hp ((m.set j _).map T) : Cl p (zs n)) = _
    have a := hT.row (show j < m.length by omega)
    have b := hT.row (show d < m.length by omega)
    rw [List.map_set, L.plus _ _ _ a.1 a.2 b.1 b.2, ← map_getD (T := T) (show j < m.length by omega), ← map_getD (T := T) (show d < m.length by omega),
      Cl.prod_plus hp hP (map_tab L hT) (by rw [List.length_map]; omega) (by rw [List.length_map]; omega) hjd]
  scale := fun m hT hl j k hj => by
    show (Cl.prod hp ((m.set j _).map T) : Cl p (zs n)) = _
    have a := hT.row (show j < m.length by omega)
    have hj' : j < (m.map T).length := by rw [List.length_map]; omega
    rw [List.map_set, L.scale _ _ a.1 a.2, ← map_getD (T := T) (show j < m.length by omega),
      Cl.set_scale hp _ hj' (((map_tab L hT).row hj').1.trans (zs_len n).symm), set_self _ hj']
  zero := fun m hT hl r hr h0 => by
    show (Cl.prod hp (m.map T) : Cl p (zs n)) = _
    have a := hT.row (show r < m.length by omega)
    have hz : m.getD r [] = scaleL p (m.getD r []) 0 := by
      refine list_ext_getD 0 (by rw [scaleL_len]) fun q hq => ?_
      rw [scaleL_getD _ hq, Int.mul_zero, Int.zero_emod]
      exact h0 q (by omega)
    have hj' : r < (m.map T).length := by rw [List.length_map]; omega
    have e : m.map T = (m.map T).set r (scaleL p ((m.map T).getD r []) 0) := by
      conv => lhs; rw [← set_self (m.map T) hj']
      rw [map_getD (show r < m.length by omega), ← L.scale _ _ a.1 a.2, ← hz]
    rw [e, Cl.set_scale hp _ hj' (((map_tab L hT).row hj').1.trans (zs_len n).symm), Cl.zero_sm]
theorem det_map (hp : 0 < p) (hP : isP p = true) {T : List Int → List Int} (L : Lin p n T) {m : List (List Int)} (hT : Tab p n m) (hl : m.length = n) (hn : 0 < n) : (Cl.prod hp (m.map T) : Cl p (zs n)) = detL p m * Cl.prod hp ((unitM n).map T) :=
  (Alt.map hp hP L).all hP hT hl hn
/-- The determinant of a product. -/
theorem applyL_len (p : Int) (a : List (List Int)) (v : List Int) : (applyL p a v).length = a.length := tab_len _ _
theorem applyL_nums (hp : 0 < p) (a : List (List Int)) (v : List Int) : NumsL p (applyL p a v) := NumsL.tab fun i _ => by
  unfold dotL
  exact ⟨Int.emod_nonneg _ (by omega), Int.emod_lt_of_pos _ hp⟩
theorem lin_apply (hp : 0 < p) {b : List (List Int)} (hb : Tab p n b) (hl : b.length = n) (hn : 0 < n) : Lin p n fun v => applyL p (transL b) v where
  ok := fun v hv _ => ⟨by rw [applyL_len, transL_len hb (by omega)], applyL_nums hp _ _⟩
  plus := fun x y k hx _ hy _ => by
    refine list_ext_getD 0 (by rw [applyL_len, plusL_len, applyL_len]) fun q hq => ?_
    rw [applyL_len, transL_len hb (by omega)] at hq
    rw [apply_at hb (by omega) _ hq, plusL_getD _ _ (by rw [applyL_len, transL_len hb (by omega)]; exact hq), apply_at hb (by omega) _ hq, apply_at hb (by omega) _ hq]
    have h1 : (sumTo b.length fun i => ent b i q * (plusL p x y k).getD i 0) % p = (sumTo b.length fun i => ent b i q * (x.getD i 0 + k * y.getD i 0)) % p := sumTo_mod p fun i hi => by
      rw [plusL_getD _ _ (by omega)]
      exact cg_mul rfl (cg_self _ _)
    have h2 : (sumTo b.length fun i => ent b i q * (x.getD i 0 + k * y.getD i 0)) = (sumTo b.length fun i => ent b i q * x.getD i 0) + k * sumTo b.length fun i => ent b i q * y.getD i 0 := by
      rw [← sumTo_mul, ← sumTo_add]
      exact sumTo_congr fun i _ => by grind
    rw [h1, h2]
    exact (cg_add (cg_self _ _) (cg_mul rfl (cg_self _ _))).symm
  scale := fun x k hx _ => by
    refine list_ext_getD 0 (by rw [applyL_len, scaleL_len, applyL_len]) fun q hq => ?_
    rw [applyL_len, transL_len hb (by omega)] at hq
    rw [apply_at hb (by omega) _ hq, scaleL_getD _ (by rw [applyL_len, transL_len hb (by omega)]; exact hq), apply_at hb (by omega) _ hq]
    have h1 : (sumTo b.length fun i => ent b i q * (scaleL p x k).getD i 0) % p = (sumTo b.length fun i => ent b i q * (x.getD i 0 * k)) % p := sumTo_mod p fun i hi => by
      rw [scaleL_getD _ (by omega)]
      exact cg_mul rfl (cg_self _ _)
    have h2 : (sumTo b.length fun i => ent b i q * (x.getD i 0 * k)) = (sumTo b.length fun i => ent b i q * x.getD i 0) * k := by
      rw [← sumTo_mul_right]
      exact sumTo_congr fun i _ => by grind
    rw [h1, h2]
    exact (cg_mul (cg_self _ _) rfl).symm
theorem unit_apply (hp : 2 ≤ p) {b : List (List Int)} (hb : Tab p n b) (hl : b.length = n) (hn : 0 < n) : (unitM n).map (fun v => applyL p (transL b) v) = b := by
  refine list_ext_getD [] (by rw [List.length_map, unitM_len, hl]) fun i hi => ?_
  rw [List.length_map, unitM_len] at hi
  rw [map_getD (by rw [unitM_len]; exact hi), unitM_getD hi]
  have hbi := hb.row (show i < b.length by omega)
  refine list_ext_getD 0 (by rw [applyL_len, transL_len hb (by omega), hbi.1]) fun q hq => ?_
  rw [applyL_len, transL_len hb (by omega)] at hq
  rw [apply_at hb (by omega) _ hq, hl, sumTo_one i hi fun r hr hne => ?_]
  · rw [unitRow_getD hi, if_pos rfl, Int.mul_one]
    have := hb.ent (by omega) i q
    exact Int.emod_eq_of_lt this.1 this.2
  · rw [unitRow_getD hr, if_neg fun e => hne e.symm, Int.mul_zero]
theorem det_times (hP : isP p = true) {a b : List (List Int)} (ha : Tab p n a) (hla : a.length = n) (hb : Tab p n b) (hlb : b.length = n) (hn : 0 < n) : detL p (timesM p a b) % p = (detL p a * detL p b) % p := by
  have h3 := isP_ge hP
  have hp : 0 < p := by omega
  have L := lin_apply hp hb hlb hn
  have e : timesM p a b = a.map fun v => applyL p (transL b) v := by
    unfold timesM
    refine list_ext_getD [] (by rw [tab_len, List.length_map]) fun i hi => ?_
    rw [tab_len] at hi
    rw [tab_getD hi, map_getD hi]
  have h1 := det_map hp hP L ha hla hn
  rw [← e, unit_apply (by omega) hb hlb hn, prod_det hp hP hb hlb, Cl.sm_sm, prod_det hp hP (by rw [e]; exact map_tab L ha) (by rw [e, List.length_map, hla])] at h1
  exact det_uniq hp (by omega) h1
end
end Go.Proofs.YtdbibmilicjllaaGreat
namespace Go.Proofs.YtdbibmilicjllaaGreat
section
variable {p : Int} {n : Nat}
theorem mat_ext {a b : List (List Int)} (ha : Tab p n a) (hb : Tab p n b) (h : a.length = b.length) (he : ∀ i q, i < a.length → q < n → ent a i q = ent b i q) : a = b := by
  refine list_ext_getD [] h fun i hi => ?_
  have h1 := ha.row hi
  have h2 := hb.row (show i < b.length by omega)
  refine list_ext_getD 0 (by rw [h1.1, h2.1]) fun q hq => ?_
  rw [h1.1] at hq
  exact he i q hi hq
/-- Places exchanged. -/
def swC (n i j : Nat) (v : List Int) : List Int := tab n fun q => v.getD (if q = j then i else if q = i then j else q) 0
/-- A multiple of place j added to place d. -/
def adC (p : Int) (n j d : Nat) (k : Int) (v : List Int) : List Int := tab n fun q => (v.getD q 0 + if q = j then k * v.getD d 0 else 0) % p
/-- A place multiplied. -/
def scC (p : Int) (n j : Nat) (k : Int) (v : List Int) : List Int := tab n fun q => (v.getD q 0 * if q = j then k else 1) % p
theorem sw_lt {i j q : Nat} (hi : i < n) (hj : j < n) (hq : q < n) : (if q = j then i else if q = i then j else q) < n := by
  split
  · exact hi
  · split
    · exact hj
    · exact hq
theorem swC_lin (hp : 0 < p) {i j : Nat} (hi : i < n) (hj : j < n) : Lin p n (swC n i j) where
  ok := fun v _ hv => ⟨tab_len _ _, NumsL.tab fun q _ => hv.getD hp _⟩
  plus := fun a b k ha _ hb _ => by
    refine list_ext_getD 0 (by rw [plusL_len]; unfold swC; rw [tab_len, tab_len]) fun q hq => ?_
    have hq' : q < n := by unfold swC at hq; rw [tab_len] at hq; exact hq
    rw [plusL_getD _ _ (by unfold swC; rw [tab_len]; exact hq')]
    unfold swC
    rw [tab_getD hq', tab_getD hq', tab_getD hq', plusL_getD _ _ (by rw [ha]; exact sw_lt hi hj hq')]
  scale := fun a k ha _ => by
    refine list_ext_getD 0 (by rw [scaleL_len]; unfold swC; rw [tab_len, tab_len]) fun q hq => ?_
    have hq' : q < n := by unfold swC at hq; rw [tab_len] at hq; exact hq
    rw [scaleL_getD _ (by unfold swC; rw [tab_len]; exact hq')]
    unfold swC
    rw [tab_getD hq', tab_getD hq', scaleL_getD _ (by rw [ha]; exact sw_lt hi hj hq')]
theorem adC_lin (hp : 0 < p) {j d : Nat} (_hj : j < n) (hd : d < n) (k : Int) : Lin p n (adC p n j d k) where
  ok := fun v _ _ => ⟨tab_len _ _, NumsL.tab fun q _ => ⟨Int.emod_nonneg _ (by omega), Int.emod_lt_of_pos _ hp⟩⟩
  plus := fun a b c ha _ hb _ => by
    refine list_ext_getD 0 (by rw [plusL_len]; unfold adC; rw [tab_len, tab_len]) fun q hq => ?_
    have hq' : q < n := by unfold adC at hq; rw [tab_len] at hq; exact hq
    rw [plusL_getD _ _ (by unfold adC; rw [tab_len]; exact hq')]
    unfold adC
    rw [tab_getD hq', tab_getD hq', tab_getD hq', plusL_getD _ _ (by omega), plusL_getD _ _ (by omega)]
    refine Eq.trans ?_ (cg_add (cg_self _ _) (cg_mul rfl (cg_self _ _))).symm
    by_cases h : q = j
    · rw [if_pos h, if_pos h, if_pos h]
      refine (cg_add (cg_self _ _) (cg_mul rfl (cg_self _ _))).trans ?_
      congr 1; grind
    · rw [if_neg h, if_neg h, if_neg h, Int.add_zero, Int.add_zero, Int.add_zero]
      exact cg_self _ _
  scale := fun a c ha _ => by
    refine list_ext_getD 0 (by rw [scaleL_len]; unfold adC; rw [tab_len, tab_len]) fun q hq => ?_
    have hq' : q < n := by unfold adC at hq; rw [tab_len] at hq; exact hq
    rw [scaleL_getD _ (by unfold adC; rw [tab_len]; exact hq')]
    unfold adC
    rw [tab_getD hq', tab_getD hq', scaleL_getD _ (by omega), scaleL_getD _ (by omega)]
    refine Eq.trans ?_ (cg_mul (cg_self _ _) rfl).symm
    by_cases h : q = j
    · rw [if_pos h, if_pos h]
      refine (cg_add (cg_self _ _) (cg_mul rfl (cg_self _ _))).trans ?_
      congr 1; grind
    · rw [if_neg h, if_neg h, Int.add_zero, Int.add_zero]
      exact cg_self _ _
theorem scC_lin (hp : 0 < p) (j : Nat) (k : Int) : Lin p n (scC p n j k) where
  ok := fun v _ _ => ⟨tab_len _ _, NumsL.tab fun q _ => ⟨Int.emod_nonneg _ (by omega), Int.emod_lt_of_pos _ hp⟩⟩
  plus := fun a b c ha _ hb _ => by
    refine list_ext_getD 0 (by rw [plusL_len]; unfold scC; rw [tab_len, tab_len]) fun q hq => ?_
    have hq' : q < n := by unfold scC at hq; rw [tab_len] at hq; exact hq
    rw [plusL_getD _ _ (by unfold scC; rw [tab_len]; exact hq')]
    unfold scC
    rw [tab_getD hq', tab_getD hq', tab_getD hq', plusL_getD _ _ (by omega)]
    refine Eq.trans ?_ (cg_add (cg_self _ _) (cg_mul rfl (cg_self _ _))).symm
    refine (cg_mul (cg_self _ _) rfl).trans ?_
    congr 1; grind
  scale := fun a c ha _ => by
    refine list_ext_getD 0 (by rw [scaleL_len]; unfold scC; rw [tab_len, tab_len]) fun q hq => ?_
    have hq' : q < n := by unfold scC at hq; rw [tab_len] at hq; exact hq
    rw [scaleL_getD _ (by unfold scC; rw [tab_len]; exact hq')]
    unfold scC
    rw [tab_getD hq', tab_getD hq', scaleL_getD _ (by omega)]
    refine Eq.trans ?_ (cg_mul (cg_self _ _) rfl).symm
    refine (cg_mul (cg_self _ _) rfl).trans ?_
    congr 1; grind
theorem trans_at {m : List (List Int)} (hT : Tab p n m) (hl : m.length = n) (hn : 0 < n) {i q : Nat} (hi : i < n) (hq : q < n) : ent (transL m) i q = ent m q i := ent_trans hT (by omega) (by omega) hi
theorem trans_ok (hp : 0 < p) {m : List (List Int)} (hT : Tab p n m) (hl : m.length = n) (hn : 0 < n) : Tab p n (transL m) ∧ (transL m).length = n := by
  have := transL_tab hp hT
  rw [hl] at this
  exact ⟨this, transL_len hT (by omega)⟩
/-- The product of a transposed matrix's rows. -/
theorem Alt.trans (hp : 0 < p) (hP : isP p = true) (hn : 0 < n) : Alt (n := n) hp (fun m => Cl.prod hp (transL m)) := by
  have h3 := isP_ge hP
  have hU := unitM_tab (p := p) (by omega) n
  have hUl := unitM_len n
  have key : ∀ (T : List Int → List Int) (L : Lin p n T) (m m' : List (List Int)) (c : Int), Tab p n m → m.length = n → Tab p n m' → m'.length = n →
      (∀ i q, i < n → q < n → ent m' i q = (T ((transL m).getD q [])).getD i 0) → (Cl.prod hp ((unitM n).map T) : Cl p (zs n)) = c * Cl.prod hp (unitM n) →
      (Cl.prod hp (transL m') : Cl p (zs n)) = c * Cl.prod hp (transL m) := by
    intro T L m m' c hT hl hT' hl' he hu
    obtain ⟨t1, t2⟩ := trans_ok hp hT hl hn
    obtain ⟨t1', t2'⟩ := trans_ok hp hT' hl' hn
    have e : transL m' = (transL m).map T := mat_ext t1' (map_tab L t1) (by rw [List.length_map, t2, t2']) fun i q hi hq => by
      rw [t2'] at hi
      rw [trans_at hT' hl' hn hi hq, he q i hq hi]
      show _ = (((transL m).map T).getD i []).getD q 0
      rw [map_getD (by omega)]
    rw [e, det_map hp hP L t1 t2 hn, hu, Cl.sm_sm, Int.mul_comm, ← Cl.sm_sm, ← prod_det hp hP t1 t2]
  have rowT : ∀ (m : List (List Int)), Tab p n m → m.length = n → ∀ q, q < n → ∀ i, i < n → ((transL m).getD q []).getD i 0 = ent m i q := fun m hT hl q hq i hi => trans_at hT hl hn hq hi
  refine ⟨fun m hT hl i j hi hj => ?_, fun m hT hl j d k hj hd hjd => ?_, fun m hT hl j k hj => ?_, fun m hT hl r hr h0 => ?_⟩
  · refine key (swC n i j) (swC_lin hp hi hj) m _ _ hT hl (swapL_tab hT (by omega) (by omega)) (by rw [swapL_len, hl]) (fun r q hr hq => ?_) ?_
    · rw [ent_swap (by omega) (by omega)]
      unfold swC
      rw [tab_getD hr]
      split
      · rw [rowT m hT hl q hq _ hi]
      · split
        · rw [rowT m hT hl q hq _ hj]
        · rw [rowT m hT hl q hq _ hr]
    · have e : (unitM n).map (swC n i j) = swapL (unitM n) i j := mat_ext (map_tab (swC_lin hp hi hj) hU) (swapL_tab hU (by omega) (by omega)) (by rw [List.length_map, swapL_len]) fun r q hr hq => by
        rw [List.length_map, hUl] at hr
        rw [ent_swap (by omega) (by omega)]
        show (((unitM n).map (swC n i j)).getD r []).getD q 0 = _
        rw [map_getD (by omega), unitM_getD hr]
        unfold swC
        rw [tab_getD hq, unitRow_getD (sw_lt hi hj hq), unitM_ent hi hq, unitM_ent hj hq, unitM_ent hr hq]
        grind
      rw [e, Cl.prod_swap' hp hP hU (by omega) (by omega)]
  · show (Cl.prod hp (transL _) : Cl p (zs n)) = Cl.prod hp (transL m)
    have hnew : Tab p n (m.set j (plusL p (m.getD j []) (m.getD d []) k)) := hT.set j ⟨by rw [plusL_len, (hT.row (by omega)).1], plusL_nums hp _ _ _⟩
    rw [← Cl.one_sm (Cl.prod hp (transL m))]
    refine key (adC p n j d k) (adC_lin hp hj hd k) m _ 1 hT hl hnew (by rw [List.length_set, hl]) (fun r q hr hq => ?_) ?_
    · rw [ent_set (by omega)]
      unfold adC
      rw [tab_getD hr, rowT m hT hl q hq _ hr, rowT m hT hl q hq _ hd]
      by_cases h : r = j
      · rw [if_pos h, if_pos h, plusL_getD _ _ (by rw [(hT.row (by omega)).1]; exact hq), h]; rfl
      · rw [if_neg h, if_neg h, Int.add_zero]
        have := hT.ent hp r q
        exact (Int.emod_eq_of_lt this.1 this.2).symm
    · have e : (unitM n).map (adC p n j d k) = (unitM n).set d (plusL p ((unitM n).getD d []) ((unitM n).getD j []) k) := mat_ext (map_tab (adC_lin hp hj hd k) hU) (hU.set d ⟨by rw [plusL_len, (hU.row (by omega)).1], plusL_nums hp _ _ _⟩) (by rw [List.length_map, List.length_set]) fun r q hr hq => by
        rw [List.length_map, hUl] at hr
        rw [ent_set (by omega)]
        show (((unitM n).map (adC p n j d k)).getD r []).getD q 0 = _
        rw [map_getD (by omega), unitM_getD hr]
        unfold adC
        rw [tab_getD hq, unitRow_getD hq, unitRow_getD hd]
        by_cases h : r = d
        · rw [if_pos h, plusL_getD _ _ (by rw [(hU.row (by omega)).1]; exact hq), unitM_getD hd, unitM_getD hj, unitRow_getD hq, unitRow_getD hq, h, if_pos rfl]
          congr 1
          by_cases hqj : q = j
          · rw [if_pos hqj, if_pos hqj.symm]
          · rw [if_neg hqj, if_neg (c := j = q) (fun e => hqj e.symm), Int.mul_zero]
        · rw [if_neg h, if_neg h, unitM_ent hr hq, Int.mul_zero]
          have hz : (if q = j then (0 : Int) else 0) = 0 := by split <;> rfl
          rw [hz, Int.add_zero]
          split
          · exact Int.emod_eq_of_lt (by omega) (by omega)
          · exact Int.zero_emod p
      rw [e, Cl.prod_plus hp hP hU (by omega) (by omega) (fun e => hjd e.symm), Cl.one_sm]
  · have hnew : Tab p n (m.set j (scaleL p (m.getD j []) k)) := hT.set j ⟨by rw [scaleL_len, (hT.row (by omega)).1], scaleL_nums hp _ _⟩
    refine key (scC p n j k) (scC_lin hp j k) m _ k hT hl hnew (by rw [List.length_set, hl]) (fun r q hr hq => ?_) ?_
    · rw [ent_set (by omega)]
      unfold scC
      rw [tab_getD hr, rowT m hT hl q hq _ hr]
      by_cases h : r = j
      · rw [if_pos h, if_pos h, scaleL_getD _ (by rw [(hT.row (by omega)).1]; exact hq), h]; rfl
      · rw [if_neg h, if_neg h, Int.mul_one]
        have := hT.ent hp r q
        exact (Int.emod_eq_of_lt this.1 this.2).symm
    · have e : (unitM n).map (scC p n j k) = (unitM n).set j (scaleL p ((unitM n).getD j []) k) := mat_ext (map_tab (scC_lin hp j k) hU) (hU.set j ⟨by rw [scaleL_len, (hU.row (by omega)).1], scaleL_nums hp _ _⟩) (by rw [List.length_map, List.length_set]) fun r q hr hq => by
        rw [List.length_map, hUl] at hr
        rw [ent_set (by omega)]
        show (((unitM n).map (scC p n j k)).getD r []).getD q 0 = _
        rw [map_getD (by omega), unitM_getD hr]
        unfold scC
        rw [tab_getD hq, unitRow_getD hq]
        by_cases h : r = j
        · rw [if_pos h, scaleL_getD _ (by rw [(hU.row (by omega)).1]; exact hq), unitM_getD hj, unitRow_getD hq, h]
          by_cases hqj : q = j
          · rw [if_pos hqj]
          · rw [if_neg hqj, if_neg fun e => hqj e.symm, Int.zero_mul, Int.zero_mul]
        · rw [if_neg h, unitM_ent hr hq]
          by_cases hrq : r = q
          · rw [if_pos hrq, if_neg (by omega), Int.mul_one]
            exact Int.emod_eq_of_lt (by omega) (by omega)
          · rw [if_neg hrq, Int.zero_mul, Int.zero_emod]
      rw [e, Cl.set_scale hp _ (by omega) (((hU.row (by omega)).1).trans (zs_len n).symm), set_self _ (by omega)]
  · show (Cl.prod hp (transL m) : Cl p (zs n)) = _
    rw [← Cl.zero_sm (Cl.prod hp (transL m))]
    refine key (scC p n r 0) (scC_lin hp r 0) m m 0 hT hl hT hl (fun i q hi hq => ?_) ?_
    · unfold scC
      rw [tab_getD hi, rowT m hT hl q hq _ hi]
      by_cases h : i = r
      · rw [if_pos h, Int.mul_zero, Int.zero_emod, h]; exact h0 q hq
      · rw [if_neg h, Int.mul_one]
        have := hT.ent hp i q
        exact (Int.emod_eq_of_lt this.1 this.2).symm
    · rw [Cl.zero_sm]
      refine (Alt.prod hp hP).zero _ (map_tab (scC_lin hp r 0) hU) (by rw [List.length_map, hUl]) r hr fun q hq => ?_
      show (((unitM n).map (scC p n r 0)).getD r []).getD q 0 = 0
      rw [map_getD (by omega), unitM_getD hr]
      unfold scC
      rw [tab_getD hq, unitRow_getD hq]
      by_cases h : q = r
      · rw [if_pos h, Int.mul_zero, Int.zero_emod]
      · rw [if_neg h, if_neg fun e => h e.symm, Int.zero_mul, Int.zero_emod]
theorem trans_unit (hp : 2 ≤ p) (hn : 0 < n) : transL (unitM n) = unitM n := by
  have hU := unitM_tab hp n
  have hUl := unitM_len n
  obtain ⟨t1, t2⟩ := trans_ok (p := p) (by omega) hU hUl hn
  refine mat_ext t1 hU (by rw [t2, hUl]) fun i q hi hq => ?_
  rw [t2] at hi
  rw [trans_at hU hUl hn hi hq, unitM_ent hq hi, unitM_ent hi hq]
  grind
/-- The determinant of the transposed matrix. -/
theorem det_trans (hP : isP p = true) {m : List (List Int)} (hT : Tab p n m) (hl : m.length = n) (hn : 0 < n) : detL p (transL m) = detL p m := by
  have h3 := isP_ge hP
  have hp : 0 < p := by omega
  obtain ⟨t1, t2⟩ := trans_ok hp hT hl hn
  have h1 : (Cl.prod hp (transL m) : Cl p (zs n)) = detL p m * Cl.prod hp (transL (unitM n)) := (Alt.trans hp hP hn).all hP hT hl hn
  rw [trans_unit (p := p) (by omega) hn, prod_det hp hP t1 t2] at h1
  have h2 := det_uniq hp (by omega) h1
  have b1 := detL_small (p := p) (by omega) (transL m)
  have b2 := detL_small (p := p) (by omega) m
  rwa [Int.emod_eq_of_lt b1.1 b1.2, Int.emod_eq_of_lt b2.1 b2.2] at h2
theorem det_unit (hP : isP p = true) : detL p (unitM n) = 1 := by
  have h3 := isP_ge hP
  have hp : 0 < p := by omega
  have h := prod_det (n := n) hp hP (unitM_tab (by omega) n) (unitM_len n)
  have h2 := det_uniq (a := 1) (b := detL p (unitM n)) hp (by omega) (by rw [Cl.one_sm]; exact h)
  have b := detL_small (p := p) (by omega) (unitM n)
  rw [Int.emod_eq_of_lt b.1 b.2, Int.emod_eq_of_lt (by omega) (by omega)] at h2
  exact h2.symm
end
end Go.Proofs.YtdbibmilicjllaaGreat
namespace Go.Proofs.YtdbibmilicjllaaGreat
/-- Matrices with n rows and columns of numbers. -/
structure Mt (p : Int) (n : Nat) where
  l : List (List Int)
  len : l.length = n
  tab : Tab p n l
  pos : 0 < p
section
variable {p : Int} {n : Nat}
def Mt.at (x : Mt p n) (i j : Nat) : Int := ent x.l i j
theorem Mt.ext {x y : Mt p n} (h : x.l = y.l) : x = y := by
  cases x; cases y; simp only at h; subst h; rfl
theorem Mt.small (x : Mt p n) (i j : Nat) : 0 ≤ x.at i j ∧ x.at i j < p := x.tab.ent x.pos i j
theorem Mt.same {x y : Mt p n} (h : ∀ i j, i < n → j < n → x.at i j % p = y.at i j % p) : x = y := Mt.ext (mat_ext x.tab y.tab (x.len.trans y.len.symm) fun i q hi hq => by
  rw [x.len] at hi
  exact cg_eq (x.small i q) (y.small i q) (h i q hi hq))
def Mt.of (hp : 0 < p) (f : Nat → Nat → Int) : Mt p n := ⟨Go.Proofs.YtdbibmilicjllaaGreat.tab n fun i => Go.Proofs.YtdbibmilicjllaaGreat.tab n fun j => f i j % p, tab_len _ _, Tab.tab fun i _ => ⟨tab_len _ _, NumsL.tab fun j _ => ⟨Int.emod_nonneg _ (by omega), Int.emod_lt_of_pos _ hp⟩⟩, hp⟩
theorem Mt.of_at (hp : 0 < p) (f : Nat → Nat → Int) {i j : Nat} (hi : i < n) (hj : j < n) : (Mt.of hp f : Mt p n).at i j = f i j % p := by
  show ((Go.Proofs.YtdbibmilicjllaaGreat.tab n fun i => Go.Proofs.YtdbibmilicjllaaGreat.tab n fun j => f i j % p).getD i []).getD j 0 = _
  rw [tab_getD hi, tab_getD hj]
theorem Mt.of_cg (hp : 0 < p) (f : Nat → Nat → Int) {i j : Nat} (hi : i < n) (hj : j < n) : (Mt.of hp f : Mt p n).at i j % p = f i j % p := by rw [Mt.of_at hp f hi hj, cg_self]
instance : Mul (Mt p n) := ⟨fun x y => Mt.of x.pos fun i j => sumTo n fun k => x.at i k * y.at k j⟩
instance : Add (Mt p n) := ⟨fun x y => Mt.of x.pos fun i j => x.at i j + y.at i j⟩
instance : HMul Int (Mt p n) (Mt p n) := ⟨fun k x => Mt.of x.pos fun i j => k * x.at i j⟩
def Mt.one (hp : 0 < p) : Mt p n := Mt.of hp fun i j => if i = j then 1 else 0
def Mt.tr (x : Mt p n) : Mt p n := Mt.of x.pos fun i j => x.at j i
theorem Mt.mul_at (x y : Mt p n) {i j : Nat} (hi : i < n) (hj : j < n) : (x * y).at i j % p = (sumTo n fun k => x.at i k * y.at k j) % p := Mt.of_cg x.pos _ hi hj
theorem Mt.add_at (x y : Mt p n) {i j : Nat} (hi : i < n) (hj : j < n) : (x + y).at i j % p = (x.at i j + y.at i j) % p := Mt.of_cg x.pos _ hi hj
theorem Mt.sm_at (k : Int) (x : Mt p n) {i j : Nat} (hi : i < n) (hj : j < n) : (k * x).at i j % p = (k * x.at i j) % p := Mt.of_cg x.pos (fun i j => k * x.at i j) hi hj
theorem Mt.one_at (hp : 0 < p) {i j : Nat} (hi : i < n) (hj : j < n) : (Mt.one hp : Mt p n).at i j % p = (if i = j then 1 else 0) % p := Mt.of_cg hp _ hi hj
theorem Mt.tr_at (x : Mt p n) {i j : Nat} (hi : i < n) (hj : j < n) : x.tr.at i j % p = x.at j i % p := Mt.of_cg x.pos (fun i j => x.at j i) hi hj
theorem Mt.mul_assoc (x y z : Mt p n) : x * y * z = x * (y * z) := Mt.same fun i j hi hj => by
  rw [Mt.mul_at _ _ hi hj, Mt.mul_at _ _ hi hj]
  have h1 : (sumTo n fun k => (x * y).at i k * z.at k j) % p = (sumTo n fun k => sumTo n fun r => x.at i r * y.at r k * z.at k j) % p := sumTo_mod p fun k hk => by
    rw [cg_mul (Mt.mul_at x y hi hk) rfl, ← sumTo_mul_right]
  have h2 : (sumTo n fun r => x.at i r * (y * z).at r j) % p = (sumTo n fun r => sumTo n fun k => x.at i r * y.at r k * z.at k j) % p := sumTo_mod p fun r hr => by
    rw [cg_mul (rfl : x.at i r % p = x.at i r % p) (Mt.mul_at y z hr hj), ← sumTo_mul]
    congr 1
    exact sumTo_congr fun k _ => (Int.mul_assoc _ _ _).symm
  rw [h1, h2, sumTo_comm]
theorem Mt.add_mul (x y z : Mt p n) : (x + y) * z = x * z + y * z := Mt.same fun i j hi hj => by
  rw [Mt.mul_at _ _ hi hj, Mt.add_at _ _ hi hj, cg_add (Mt.mul_at x z hi hj) (Mt.mul_at y z hi hj), ← sumTo_add]
  refine sumTo_mod p fun k hk => ?_
  rw [cg_mul (Mt.add_at x y hi hk) rfl, Int.add_mul]
theorem Mt.mul_add (x y z : Mt p n) : x * (y + z) = x * y + x * z := Mt.same fun i j hi hj => by
  rw [Mt.mul_at _ _ hi hj, Mt.add_at _ _ hi hj, cg_add (Mt.mul_at x y hi hj) (Mt.mul_at x z hi hj), ← sumTo_add]
  refine sumTo_mod p fun k hk => ?_
  rw [cg_mul (rfl : x.at i k % p = x.at i k % p) (Mt.add_at y z hk hj), Int.mul_add]
theorem Mt.sm_mul (k : Int) (x y : Mt p n) : (k * x) * y = k * (x * y) := Mt.same fun i j hi hj => by
  rw [Mt.mul_at _ _ hi hj, Mt.sm_at _ _ hi hj, cg_mul (rfl : k % p = k % p) (Mt.mul_at x y hi hj), ← sumTo_mul]
  refine sumTo_mod p fun r hr => ?_
  rw [cg_mul (Mt.sm_at k x hi hr) rfl, Int.mul_assoc]
theorem Mt.mul_sm (k : Int) (x y : Mt p n) : x * (k * y) = k * (x * y) := Mt.same fun i j hi hj => by
  rw [Mt.mul_at _ _ hi hj, Mt.sm_at _ _ hi hj, cg_mul (rfl : k % p = k % p) (Mt.mul_at x y hi hj), ← sumTo_mul]
  refine sumTo_mod p fun r hr => ?_
  rw [cg_mul (rfl : x.at i r % p = x.at i r % p) (Mt.sm_at k y hr hj)]
  congr 1; grind
theorem Mt.one_mul (hp : 0 < p) (x : Mt p n) : Mt.one hp * x = x := Mt.same fun i j hi hj => by
  rw [Mt.mul_at _ _ hi hj]
  have h : (sumTo n fun k => (Mt.one hp : Mt p n).at i k * x.at k j) % p = (sumTo n fun k => (if i = k then 1 else 0) * x.at k j) % p := sumTo_mod p fun k hk => cg_mul (Mt.one_at hp hi hk) rfl
  rw [h, sumTo_one i hi fun k _ hne => by rw [if_neg fun e => hne e.symm, Int.zero_mul], if_pos rfl, Int.one_mul]
theorem Mt.mul_one (hp : 0 < p) (x : Mt p n) : x * Mt.one hp = x := Mt.same fun i j hi hj => by
  rw [Mt.mul_at _ _ hi hj]
  have h : (sumTo n fun k => x.at i k * (Mt.one hp : Mt p n).at k j) % p = (sumTo n fun k => x.at i k * (if k = j then 1 else 0)) % p := sumTo_mod p fun k hk => cg_mul rfl (Mt.one_at hp hk hj)
  rw [h, sumTo_one j hj fun k _ hne => by rw [if_neg hne, Int.mul_zero], if_pos rfl, Int.mul_one]
theorem Mt.add_comm (x y : Mt p n) : x + y = y + x := Mt.same fun i j hi hj => by rw [Mt.add_at _ _ hi hj, Mt.add_at _ _ hi hj, Int.add_comm]
theorem Mt.add_assoc (x y z : Mt p n) : x + y + z = x + (y + z) := Mt.same fun i j hi hj => by
  rw [Mt.add_at _ _ hi hj, Mt.add_at _ _ hi hj, cg_add (Mt.add_at x y hi hj) rfl, cg_add (rfl : x.at i j % p = x.at i j % p) (Mt.add_at y z hi hj), Int.add_assoc]
theorem Mt.sm_sm (k j : Int) (x : Mt p n) : k * (j * x) = (k * j) * x := Mt.same fun i r hi hr => by
  rw [Mt.sm_at _ _ hi hr, Mt.sm_at _ _ hi hr, cg_mul (rfl : k % p = k % p) (Mt.sm_at j x hi hr), Int.mul_assoc]
theorem Mt.one_sm (x : Mt p n) : (1 : Int) * x = x := Mt.same fun i j hi hj => by rw [Mt.sm_at _ _ hi hj, Int.one_mul]
theorem Mt.sm_cg {k j : Int} (h : k % p = j % p) (x : Mt p n) : k * x = j * x := Mt.same fun i r hi hr => by
  rw [Mt.sm_at _ _ hi hr, Mt.sm_at _ _ hi hr, cg_mul h rfl]
theorem Mt.tr_tr (x : Mt p n) : x.tr.tr = x := Mt.same fun i j hi hj => by rw [Mt.tr_at _ hi hj, Mt.tr_at _ hj hi]
theorem Mt.tr_mul (x y : Mt p n) : (x * y).tr = y.tr * x.tr := Mt.same fun i j hi hj => by
  rw [Mt.tr_at _ hi hj, Mt.mul_at _ _ hj hi, Mt.mul_at _ _ hi hj]
  refine (sumTo_mod p fun k hk => ?_).symm
  rw [cg_mul (Mt.tr_at y hi hk) (Mt.tr_at x hk hj), Int.mul_comm]
theorem Mt.tr_add (x y : Mt p n) : (x + y).tr = x.tr + y.tr := Mt.same fun i j hi hj => by
  rw [Mt.tr_at _ hi hj, Mt.add_at _ _ hj hi, Mt.add_at _ _ hi hj, cg_add (Mt.tr_at x hi hj) (Mt.tr_at y hi hj)]
theorem Mt.tr_sm (k : Int) (x : Mt p n) : (k * x).tr = k * x.tr := Mt.same fun i j hi hj => by
  rw [Mt.tr_at _ hi hj, Mt.sm_at _ _ hj hi, Mt.sm_at _ _ hi hj, cg_mul (rfl : k % p = k % p) (Mt.tr_at x hi hj)]
theorem Mt.tr_one (hp : 0 < p) : (Mt.one hp : Mt p n).tr = Mt.one hp := Mt.same fun i j hi hj => by
  rw [Mt.tr_at _ hi hj, Mt.one_at hp hj hi, Mt.one_at hp hi hj]
  by_cases h : i = j
  · rw [if_pos h, if_pos h.symm]
  · rw [if_neg h, if_neg fun e => h e.symm]
theorem Mt.mul_l (x y : Mt p n) (hn : 0 < n) : (x * y).l = timesM p x.l y.l := by
  have hT : Tab p n (timesM p x.l y.l) := by
    refine Tab.tab fun i hi => ?_
    exact ⟨by rw [applyL_len, transL_len y.tab (by rw [y.len]; exact hn)], applyL_nums x.pos _ _⟩
  refine mat_ext (x * y).tab hT (by rw [(x * y).len]; unfold timesM; rw [tab_len, x.len]) fun i q hi hq => ?_
  rw [(x * y).len] at hi
  have e : ent (timesM p x.l y.l) i q = (applyL p (transL y.l) (x.l.getD i [])).getD q 0 := by
    unfold ent timesM
    rw [tab_getD (by rw [x.len]; exact hi)]
  rw [e, apply_at y.tab (by rw [y.len]; exact hn) _ hq, y.len]
  show (x * y).at i q = _
  have h := Mt.mul_at x y hi hq
  rw [Int.emod_eq_of_lt ((x * y).small i q).1 ((x * y).small i q).2] at h
  rw [h]
  congr 1
  exact sumTo_congr fun k _ => Int.mul_comm _ _
theorem Mt.one_l (hp : 2 ≤ p) : (Mt.one (by omega) : Mt p n).l = unitM n := mat_ext (Mt.one (p := p) (n := n) (by omega)).tab (unitM_tab hp n) (by rw [Mt.len, unitM_len]) fun i q hi hq => by
  rw [Mt.len] at hi
  rw [unitM_ent hi hq]
  show (Mt.one (by omega) : Mt p n).at i q = _
  have h := Mt.one_at (p := p) (n := n) (by omega) hi hq
  rw [Int.emod_eq_of_lt (Mt.small _ i q).1 (Mt.small _ i q).2] at h
  rw [h]
  split
  · exact Int.emod_eq_of_lt (by omega) (by omega)
  · exact Int.zero_emod p
theorem Mt.tr_l (x : Mt p n) (hn : 0 < n) : x.tr.l = transL x.l := by
  obtain ⟨t1, t2⟩ := trans_ok x.pos x.tab x.len hn
  refine mat_ext x.tr.tab t1 (by rw [Mt.len, t2]) fun i q hi hq => ?_
  rw [Mt.len] at hi
  rw [trans_at x.tab x.len hn hi hq]
  show x.tr.at i q = x.at q i
  exact cg_eq (x.tr.small i q) (x.small q i) (Mt.tr_at x hi hq)
def Mt.det (x : Mt p n) : Int := detL p x.l
theorem Mt.det_small (hp : 2 ≤ p) (x : Mt p n) : 0 ≤ x.det ∧ x.det < p := detL_small hp _
theorem Mt.det_mul (hP : isP p = true) (hn : 0 < n) (x y : Mt p n) : (x * y).det % p = (x.det * y.det) % p := by
  unfold Mt.det
  rw [Mt.mul_l x y hn]
  exact det_times hP x.tab x.len y.tab y.len hn
theorem Mt.det_tr (hP : isP p = true) (hn : 0 < n) (x : Mt p n) : x.tr.det = x.det := by
  unfold Mt.det
  rw [Mt.tr_l x hn]
  exact det_trans hP x.tab x.len hn
theorem Mt.det_one (hP : isP p = true) (hp : 0 < p) : (Mt.one hp : Mt p n).det = 1 := by
  have h3 := isP_ge hP
  unfold Mt.det
  rw [Mt.one_l (by omega)]
  exact det_unit hP
/-- The rows of a matrix with a determinant other than 0 are independent. -/
theorem det_ind (hP : isP p = true) (hn : 0 < n) {a : List (List Int)} (hT : Tab p n a) (hl : a.length = n) (hd : detL p a ≠ 0) : Ind p n a := fun c hc i hi => by
  have h3 := isP_ge hP
  have hp : 0 < p := by omega
  have hb : (basisL p a).length = n := by
    rcases Cl.prod_basis hp hP hT with h | ⟨h, -⟩
    · exfalso
      have h1 := prod_det hp hP hT hl
      rw [h] at h1
      have h2 := det_uniq (a := detL p a) (b := 0) hp (by omega) (by rw [← h1, Cl.zero_sm])
      have b := detL_small (p := p) (by omega) a
      rw [Int.emod_eq_of_lt b.1 b.2, Int.zero_emod] at h2
      exact hd h2
    · rw [h, hl]
  obtain ⟨t1, t2⟩ := trans_ok hp hT hl hn
  have hk := kernL_dim hP t1
  rw [rank_trans hP hT (by omega) hn, hb] at hk
  have hnil : kernL p (transL a) n = [] := List.eq_nil_of_length_eq_zero (by omega)
  have hsp : Sp p n (kernL p (transL a) n) c := by
    rw [kernL_sp hP t1]
    intro q hq
    rw [t2] at hq
    have h9 := hc q hq
    rw [hl] at h9
    rw [← h9]
    congr 1
    refine sumTo_congr fun k hk => ?_
    rw [trans_at hT hl hn hq hk, Int.mul_comm]
  rw [hnil] at hsp
  exact hsp.nil i (by omega)
theorem Mt.ne_det {x : Mt p n} (hP : isP p = true) (h : x.det % p ≠ 0) : detL p x.l ≠ 0 := fun e => h (by unfold Mt.det; rw [e, Int.zero_emod])
/-- A matrix with a determinant other than 0 can be cancelled. -/
theorem Mt.cancel_r (hP : isP p = true) (hn : 0 < n) {x y z : Mt p n} (h : x.det % p ≠ 0) (e : y * x = z * x) : y = z := Mt.same fun i j hi hj => by
  have hI := det_ind hP hn x.tab x.len (Mt.ne_det hP h)
  have h1 := hI (fun k => y.at i k - z.at i k) (fun q hq => by
    rw [x.len]
    have e1 : (y * x).at i q % p = (z * x).at i q % p := by rw [e]
    rw [Mt.mul_at _ _ hi hq, Mt.mul_at _ _ hi hq] at e1
    have e2 : (sumTo n fun k => (y.at i k - z.at i k) * ent x.l k q) = (sumTo n fun k => y.at i k * x.at k q) + -1 * sumTo n fun k => z.at i k * x.at k q := by
      rw [← sumTo_mul, ← sumTo_add]
      exact sumTo_congr fun k _ => by show _ * x.at k q = _; grind
    rw [e2, cg_add e1 (rfl : (-1 * sumTo n fun k => z.at i k * x.at k q) % p = _)]
    have e3 : ∀ S : Int, S + -1 * S = 0 := fun S => by omega
    rw [e3, Int.zero_emod]) j (by rw [x.len]; exact hj)
  obtain ⟨t, ht⟩ := cg_wit.1 (h1.trans (Int.zero_emod p).symm)
  exact cg_wit.2 ⟨t, by omega⟩
theorem Mt.cancel_l (hP : isP p = true) (hn : 0 < n) {x y z : Mt p n} (h : x.det % p ≠ 0) (e : x * y = x * z) : y = z := by
  have h1 : y.tr * x.tr = z.tr * x.tr := by rw [← Mt.tr_mul, ← Mt.tr_mul, e]
  have h2 := Mt.cancel_r hP hn (x := x.tr) (by rw [Mt.det_tr hP hn]; exact h) h1
  rw [← Mt.tr_tr y, h2, Mt.tr_tr]
end
end Go.Proofs.YtdbibmilicjllaaGreat
namespace Go.Proofs.YtdbibmilicjllaaGreat
section
variable {p : Int} {n : Nat}
instance : Std.Associative (α := Mt p n) (· + ·) := ⟨Mt.add_assoc⟩
instance : Std.Commutative (α := Mt p n) (· + ·) := ⟨Mt.add_comm⟩
theorem half_two' (hP : isP p = true) : 2 * invF p 2 % p = 1 % p := by
  have h3 := isP_ge hP
  exact inv_one hP (a := 2) (by omega) (by decide)
theorem Mt.sum2 (x y : Mt p n) : (x + y) + (x + (-1 : Int) * y) = (2 : Int) * x := Mt.same fun i j hi hj => by
  rw [Mt.add_at _ _ hi hj, cg_add (Mt.add_at x y hi hj) ((Mt.add_at x _ hi hj).trans (cg_add rfl (Mt.sm_at (-1) y hi hj))), Mt.sm_at _ _ hi hj]
  congr 1; omega
theorem Mt.dif2 (x y : Mt p n) : (x + y) + (-1 : Int) * (x + (-1 : Int) * y) = (2 : Int) * y := Mt.same fun i j hi hj => by
  rw [Mt.add_at _ _ hi hj, cg_add (Mt.add_at x y hi hj) ((Mt.sm_at (-1) _ hi hj).trans (cg_mul rfl ((Mt.add_at x _ hi hj).trans (cg_add rfl (Mt.sm_at (-1) y hi hj))))), Mt.sm_at _ _ hi hj]
  congr 1; omega
/-- Plus and minus. -/
def Mt.plus (hp : 0 < p) (a : Mt p n) : Mt p n := Mt.one hp + a
def Mt.minus (hp : 0 < p) (a : Mt p n) : Mt p n := Mt.one hp + (-1 : Int) * a
theorem Mt.pm_comm (hp : 0 < p) (a : Mt p n) : Mt.plus hp a * Mt.minus hp a = Mt.minus hp a * Mt.plus hp a := by
  unfold Mt.plus Mt.minus
  rw [Mt.add_mul, Mt.mul_add, Mt.mul_add, Mt.one_mul, Mt.one_mul, Mt.mul_one, Mt.add_mul, Mt.mul_add, Mt.mul_add, Mt.one_mul, Mt.one_mul, Mt.mul_one, Mt.mul_sm, Mt.sm_mul]
  ac_rfl
theorem Mt.det_two (hP : isP p = true) (hp : 0 < p) (hn : 0 < n) {x y : Mt p n} (h : x * y = (2 : Int) * Mt.one hp) : x.det % p ≠ 0 ∧ y.det % p ≠ 0 := by
  have h3 := isP_ge hP
  have e : x * (invF p 2 * y) = Mt.one hp := by
    rw [Mt.mul_sm, h, Mt.sm_sm, Mt.sm_cg (j := 1) (by rw [Int.mul_comm]; exact half_two' hP), Mt.one_sm]
  have e2 : (invF p 2 * x) * y = Mt.one hp := by
    rw [Mt.sm_mul, h, Mt.sm_sm, Mt.sm_cg (j := 1) (by rw [Int.mul_comm]; exact half_two' hP), Mt.one_sm]
  have one_ne : (1 : Int) % p ≠ 0 := by rw [Int.emod_eq_of_lt (by omega) (by omega)]; decide
  constructor
  · intro h0
    have h1 := Mt.det_mul hP hn x (invF p 2 * y)
    rw [e, Mt.det_one hP] at h1
    rw [Int.mul_emod, h0, Int.zero_mul, Int.zero_emod] at h1
    exact one_ne h1
  · intro h0
    have h1 := Mt.det_mul hP hn (invF p 2 * x) y
    rw [e2, Mt.det_one hP] at h1
    rw [Int.mul_emod, h0, Int.mul_zero, Int.zero_emod] at h1
    exact one_ne h1
/-- The transform of a skew matrix. -/
theorem cay_skew (hP : isP p = true) (hp : 0 < p) (hn : 0 < n) {W a g : Mt p n} (hWt : W.tr = W) (hW : W.det % p ≠ 0) (hS : W * a = (-1 : Int) * (a.tr * W)) (hD : (Mt.plus hp a).det % p ≠ 0) (hg : Mt.plus hp a * g = Mt.minus hp a) :
    g.tr * W * g = W ∧ g.det = 1 ∧ (Mt.plus hp g).det % p ≠ 0 ∧ Mt.plus hp g * a = Mt.minus hp g := by
  have h3 := isP_ge hP
  obtain ⟨D, hDe⟩ : ∃ D, D = Mt.plus hp a := ⟨_, rfl⟩
  obtain ⟨N, hNe⟩ : ∃ N, N = Mt.minus hp a := ⟨_, rfl⟩
  have hDt : D.tr = Mt.one hp + a.tr := by rw [hDe]; unfold Mt.plus; rw [Mt.tr_add, Mt.tr_one]
  have hNt : N.tr = Mt.one hp + (-1 : Int) * a.tr := by rw [hNe]; unfold Mt.minus; rw [Mt.tr_add, Mt.tr_one, Mt.tr_sm]
  have hcom : D * N = N * D := by rw [hDe, hNe]; exact Mt.pm_comm hp a
  have hWD : W * D = N.tr * W := by
    rw [hNt, Mt.add_mul, Mt.one_mul, Mt.sm_mul, hDe]; unfold Mt.plus; rw [Mt.mul_add, Mt.mul_one, hS]
  have hWN : W * N = D.tr * W := by
    rw [hDt, Mt.add_mul, Mt.one_mul, hNe]; unfold Mt.minus; rw [Mt.mul_add, Mt.mul_one, Mt.mul_sm, hS, Mt.sm_sm, show (-1 : Int) * -1 = 1 from rfl, Mt.one_sm]
  rw [← hDe] at hD hg
  rw [← hNe] at hg
  have hgD : g * D = N := Mt.cancel_l hP hn hD (by rw [← Mt.mul_assoc, hg, hcom])
  have hDtd : D.tr.det % p ≠ 0 := by rw [Mt.det_tr hP hn]; exact hD
  have hsum : D + N = (2 : Int) * Mt.one hp := by rw [hDe, hNe]; exact Mt.sum2 _ _
  have hdif : D + (-1 : Int) * N = (2 : Int) * a := by rw [hDe, hNe]; exact Mt.dif2 _ _
  have hpl : D * Mt.plus hp g = (2 : Int) * Mt.one hp := by unfold Mt.plus; rw [Mt.mul_add, Mt.mul_one, hg, hsum]
  refine ⟨Mt.cancel_l hP hn hDtd (Mt.cancel_r hP hn hD ?_), ?_, (Mt.det_two hP hp hn hpl).2, Mt.cancel_l hP hn hD ?_⟩
  · have e1 : D.tr * (g.tr * W * g) * D = (g * D).tr * W * (g * D) := by rw [Mt.tr_mul]; simp only [Mt.mul_assoc]
    rw [e1, hgD, ← hWD, Mt.mul_assoc, hcom, ← Mt.mul_assoc, hWN]
  · have e1 := Mt.det_mul hP hn W N
    rw [hWN, Mt.det_mul hP hn, Mt.det_tr hP hn] at e1
    have e2 := Mt.det_mul hP hn D g
    rw [hg] at e2
    have hs := Mt.det_small (p := p) (by omega) g
    -- W N = D W, D g = N
    obtain ⟨w, hw⟩ : ∃ w, w = W.det := ⟨_, rfl⟩
    obtain ⟨d, hd⟩ : ∃ d, d = D.det := ⟨_, rfl⟩
    obtain ⟨x, hx⟩ : ∃ x, x = g.det := ⟨_, rfl⟩
    rw [← hw, ← hd] at e1
    rw [← hd, ← hx] at e2
    rw [← hw] at hW
    rw [← hd] at hD
    rw [← hx] at hs ⊢
    have e3 : (w * d * (x - 1)) % p = 0 := by
      have e4 : (w * N.det) % p = (w * (d * x)) % p := cg_mul rfl e2
      rw [← e1] at e4
      obtain ⟨t, ht⟩ := cg_wit.1 e4.symm
      exact (cg_wit.2 ⟨t, by grind⟩).trans (Int.zero_emod p)
    have e5 : (x - 1) % p = 0 := Classical.byContradiction fun h => mul_ne hP (mul_ne hP hW hD) h e3
    obtain ⟨t, ht⟩ := cg_wit.1 (e5.trans (Int.zero_emod p).symm)
    have e6 : x % p = 1 % p := cg_wit.2 ⟨t, by omega⟩
    rw [Int.emod_eq_of_lt hs.1 hs.2, Int.emod_eq_of_lt (by omega) (by omega)] at e6
    exact e6
  · rw [← Mt.mul_assoc, hpl, Mt.sm_mul, Mt.one_mul]
    unfold Mt.minus
    rw [Mt.mul_add, Mt.mul_one, Mt.mul_sm, hg, hdif]
/-- The transform of an orthogonal matrix. -/
theorem cay_orth (hP : isP p = true) (hp : 0 < p) (hn : 0 < n) {W h k : Mt p n} (hO : h.tr * W * h = W) (hA : (Mt.plus hp h).det % p ≠ 0) (hk : Mt.plus hp h * k = Mt.minus hp h) :
    W * k = (-1 : Int) * (k.tr * W) ∧ (Mt.plus hp k).det % p ≠ 0 ∧ Mt.plus hp k * h = Mt.minus hp k := by
  obtain ⟨A, hAe⟩ : ∃ A, A = Mt.plus hp h := ⟨_, rfl⟩
  obtain ⟨N, hNe⟩ : ∃ N, N = Mt.minus hp h := ⟨_, rfl⟩
  have hAt : A.tr = Mt.one hp + h.tr := by rw [hAe]; unfold Mt.plus; rw [Mt.tr_add, Mt.tr_one]
  have hNt : N.tr = Mt.one hp + (-1 : Int) * h.tr := by rw [hNe]; unfold Mt.minus; rw [Mt.tr_add, Mt.tr_one, Mt.tr_sm]
  have hcom : A * N = N * A := by rw [hAe, hNe]; exact Mt.pm_comm hp h
  rw [← hAe] at hA hk
  rw [← hNe] at hk
  have hkA : k * A = N := Mt.cancel_l hP hn hA (by rw [← Mt.mul_assoc, hk, hcom])
  have hAtd : A.tr.det % p ≠ 0 := by rw [Mt.det_tr hP hn]; exact hA
  have hsum : A + N = (2 : Int) * Mt.one hp := by rw [hAe, hNe]; exact Mt.sum2 _ _
  have hdif : A + (-1 : Int) * N = (2 : Int) * h := by rw [hAe, hNe]; exact Mt.dif2 _ _
  have hpl : A * Mt.plus hp k = (2 : Int) * Mt.one hp := by unfold Mt.plus; rw [Mt.mul_add, Mt.mul_one, hk, hsum]
  refine ⟨Mt.cancel_l hP hn hAtd (Mt.cancel_r hP hn hA ?_), (Mt.det_two hP hp hn hpl).2, Mt.cancel_l hP hn hA ?_⟩
  · have e1 : A.tr * (W * k) * A = A.tr * W * N := by simp only [Mt.mul_assoc]; rw [hkA]
    have e2 : A.tr * ((-1 : Int) * (k.tr * W)) * A = (-1 : Int) * (N.tr * (W * A)) := by
      rw [Mt.mul_sm, Mt.sm_mul]
      congr 1
      have e3 : A.tr * (k.tr * W) * A = (k * A).tr * (W * A) := by rw [Mt.tr_mul]; simp only [Mt.mul_assoc]
      rw [e3, hkA]
    have f1 : A.tr * W * N = (W + h.tr * W) + (-1 : Int) * (W * h + W) := by
      rw [hAt, Mt.add_mul, Mt.one_mul, hNe]
      unfold Mt.minus
      rw [Mt.mul_add, Mt.mul_one, Mt.mul_sm, Mt.add_mul, hO]
    have f2 : N.tr * (W * A) = (W + W * h) + (-1 : Int) * (h.tr * W + W) := by
      rw [hNt, hAe]
      unfold Mt.plus
      rw [Mt.mul_add, Mt.mul_one, Mt.add_mul, Mt.one_mul, Mt.sm_mul, Mt.mul_add, ← Mt.mul_assoc h.tr W h, hO]
    rw [e1, e2, f1, f2]
    refine Mt.same fun i j hi hj => ?_
    obtain ⟨x, hx⟩ : ∃ x, x = h.tr * W := ⟨_, rfl⟩
    obtain ⟨y, hy⟩ : ∃ y, y = W * h := ⟨_, rfl⟩
    rw [← hx, ← hy, Mt.add_at _ _ hi hj, cg_add (Mt.add_at W x hi hj) ((Mt.sm_at (-1) _ hi hj).trans (cg_mul rfl (Mt.add_at y W hi hj))), Mt.sm_at _ _ hi hj,
      cg_mul (rfl : (-1 : Int) % p = -1 % p) ((Mt.add_at _ _ hi hj).trans (cg_add (Mt.add_at W y hi hj) ((Mt.sm_at (-1) _ hi hj).trans (cg_mul rfl (Mt.add_at x W hi hj)))))]
    congr 1; omega
  · rw [← Mt.mul_assoc, hpl, Mt.sm_mul, Mt.one_mul]
    unfold Mt.minus
    rw [Mt.mul_add, Mt.mul_one, Mt.mul_sm, hk, hdif]
end
end Go.Proofs.YtdbibmilicjllaaGreat
namespace Go.Proofs.YtdbibmilicjllaaGreat
/-- The rows of a matrix beside those of the unit matrix. -/
def wideM (M : List (List Int)) : List (List Int) := tab M.length fun i => M.getD i [] ++ unitRow M.length i
def invL (p : Int) (M : List (List Int)) : List (List Int) := tab (basisL p (wideM M)).length fun i => ((basisL p (wideM M)).getD i []).drop M.length
/-- The unit matrix plus k times a matrix. -/
def onePl (p : Int) (M : List (List Int)) (k : Int) : List (List Int) := tab M.length fun i => plusL p (unitRow M.length i) (M.getD i []) k
section
variable {p : Int} {n : Nat} {M : List (List Int)}
theorem unitRow_ent {n i k : Nat} (hi : i < n) (hk : k < n) : (unitRow n i).getD k 0 = if i = k then 1 else 0 := by
  rw [← unitM_ent hi hk]; unfold ent; rw [unitM_getD hi]
theorem wide_len (M : List (List Int)) : (wideM M).length = M.length := tab_len _ _
theorem wide_tab (hp : 2 ≤ p) (hT : Tab p n M) (hl : M.length = n) : Tab p (n + n) (wideM M) := Tab.tab fun i hi => by
  obtain ⟨h1, h2⟩ := hT.row hi
  refine ⟨by rw [List.length_append, h1, unitRow_len, hl], fun x hx => ?_⟩
  rcases List.mem_append.1 hx with h | h
  · exact h2 x h
  · exact unitRow_nums hp _ _ x h
theorem wide_left (hT : Tab p n M) {i q : Nat} (hi : i < M.length) (hq : q < n) : ent (wideM M) i q = ent M i q := by
  unfold ent wideM
  rw [tab_getD hi, getD_app_left 0 _ (by rw [(hT.row hi).1]; exact hq)]
theorem wide_right (hT : Tab p n M) (hl : M.length = n) {i q : Nat} (hi : i < M.length) (hq : q < n) : ent (wideM M) i (n + q) = if i = q then 1 else 0 := by
  unfold ent wideM
  rw [tab_getD hi]
  conv => lhs; rw [show n + q = (M.getD i []).length + q by rw [(hT.row hi).1]]
  rw [getD_app_right, hl, unitRow_ent (by omega) hq]
theorem wide_ind (hT : Tab p n M) (hl : M.length = n) : Ind p (n + n) (wideM M) := fun c hc i hi => by
  rw [wide_len, hl] at hi
  have h := hc (n + i) (by omega)
  rw [wide_len, hl] at h
  rwa [sumTo_one i hi fun k hk hne => by rw [wide_right hT hl (by omega) hi, if_neg hne, Int.mul_zero], wide_right hT hl (by omega) hi, if_pos rfl, Int.mul_one] at h
theorem wideB_len (hP : isP p = true) (hT : Tab p n M) (hl : M.length = n) : (basisL p (wideM M)).length = n := by
  have h3 := isP_ge hP
  rw [Ind.basis hP (wide_tab (by omega) hT hl) (wide_ind hT hl), wide_len, hl]
theorem wideB_tab (hP : isP p = true) (hT : Tab p n M) (hl : M.length = n) : Tab p (n + n) (basisL p (wideM M)) := by
  have h3 := isP_ge hP
  exact basisL_tab (by omega) _ (wide_tab (by omega) hT hl)
theorem inv_len (hP : isP p = true) (hT : Tab p n M) (hl : M.length = n) : (invL p M).length = n := by
  unfold invL; rw [tab_len, wideB_len hP hT hl]
theorem inv_tab (hP : isP p = true) (hT : Tab p n M) (hl : M.length = n) : Tab p n (invL p M) := Tab.tab fun i hi => by
  obtain ⟨h1, h2⟩ := (wideB_tab hP hT hl).row hi
  exact ⟨by rw [List.length_drop, h1, hl]; omega, fun x hx => h2 x (List.mem_of_mem_drop hx)⟩
theorem inv_ent (hP : isP p = true) (hT : Tab p n M) (hl : M.length = n) {i q : Nat} (hi : i < n) : ent (invL p M) i q = ent (basisL p (wideM M)) i (n + q) := by
  unfold ent invL
  rw [tab_getD (by rw [wideB_len hP hT hl]; exact hi), hl]
  simp only [List.getD_eq_getElem?_getD, List.getElem?_drop]
/-- Each row of the basis is made of rows of the matrix, by the numbers of its right half. -/
theorem wide_row (hP : isP p = true) (hT : Tab p n M) (hl : M.length = n) {i q : Nat} (hi : i < n) (hq : q < n) :
    ent (basisL p (wideM M)) i q % p = (sumTo n fun k => ent (basisL p (wideM M)) i (n + k) * ent M k q) % p := by
  have h3 := isP_ge hP
  have hW := wide_tab (by omega) hT hl
  obtain ⟨c, hc⟩ := (basisL_in hP _ hW).1 i (by rw [wideB_len hP hT hl]; exact hi)
  rw [wide_len, hl] at hc
  rw [hc q (by omega)]
  refine sumTo_mod p fun k hk => ?_
  have h1 := hc (n + k) (by omega)
  rw [sumTo_one k hk fun r hr hne => by rw [wide_right hT hl (by omega) hk, if_neg hne, Int.mul_zero], wide_right hT hl (by omega) hk, if_pos rfl, Int.mul_one] at h1
  rw [wide_left hT (by omega) hq]
  exact cg_mul h1.symm rfl
def Mt.mk' (hp : 0 < p) (hT : Tab p n M) (hl : M.length = n) : Mt p n := ⟨M, hl, hT, hp⟩
/-- If all places of leads lie in the left half, this is the unit matrix. -/
theorem inv_left (hP : isP p = true) (hp : 0 < p) (hn : 0 < n) (hT : Tab p n M) (hl : M.length = n) (h : ld (basisL p (wideM M)) (n - 1) < n) :
    Mt.mk' hp (inv_tab hP hT hl) (inv_len hP hT hl) * Mt.mk' hp hT hl = Mt.one hp := by
  have h3 := isP_ge hP
  have hW := wide_tab (by omega) hT hl
  have hR := basisL_red hP _ hW
  have hB := wideB_len hP hT hl
  have hge : ∀ i, i < n → i ≤ ld (basisL p (wideM M)) i := by
    intro i
    induction i with
    | zero => intro _; omega
    | succ i ih =>
      intro hi
      have h1 := ih (by omega)
      have h2 := hR.mono i (i + 1) (by omega) (by omega)
      omega
  have hle : ∀ k i, i + k = n - 1 → ld (basisL p (wideM M)) i + k < n := by
    intro k
    induction k with
    | zero => intro i hi; obtain rfl : i = n - 1 := by omega
              omega
    | succ k ih =>
      intro i hi
      have h1 := ih (i + 1) (by omega)
      have h2 := hR.mono i (i + 1) (by omega) (by omega)
      omega
  have hld : ∀ i, i < n → ld (basisL p (wideM M)) i = i := fun i hi => by
    have h1 := hge i hi
    have h2 := hle (n - 1 - i) i (by omega)
    omega
  refine Mt.same fun i j hi hj => ?_
  rw [Mt.mul_at _ _ hi hj, Mt.one_at hp hi hj]
  have e : (sumTo n fun k => (Mt.mk' hp (inv_tab hP hT hl) (inv_len hP hT hl)).at i k * (Mt.mk' hp hT hl).at k j) = sumTo n fun k => ent (basisL p (wideM M)) i (n + k) * ent M k j := by
    refine sumTo_congr fun k hk => ?_
    show ent (invL p M) i k * ent M k j = _
    rw [inv_ent hP hT hl hi]
  rw [e, ← wide_row hP hT hl hi hj]
  by_cases hij : i = j
  · subst hij
    rw [if_pos rfl]
    have h9 := hR.one i (by omega)
    rw [hld i hi] at h9
    rw [h9]
  · rw [if_neg hij]
    have h9 := hR.zero j i (by omega) (by omega) hij
    rw [hld j hj] at h9
    rw [h9]
theorem inv_iff (hP : isP p = true) (hn : 0 < n) (hT : Tab p n M) (hl : M.length = n) : ld (basisL p (wideM M)) (n - 1) < n ↔ detL p M ≠ 0 := by
  have h3 := isP_ge hP
  have hp : 0 < p := by omega
  have hW := wide_tab (by omega) hT hl
  have hR := basisL_red hP _ hW
  have hB := wideB_len hP hT hl
  constructor
  · intro h h0
    have e := inv_left hP hp hn hT hl h
    have h1 := Mt.det_mul hP hn (Mt.mk' hp (inv_tab hP hT hl) (inv_len hP hT hl)) (Mt.mk' hp hT hl)
    rw [e, Mt.det_one hP, show (Mt.mk' hp hT hl).det = 0 from h0, Int.mul_zero, Int.zero_emod, Int.emod_eq_of_lt (by omega) (by omega)] at h1
    omega
  · intro h0
    rcases Nat.lt_or_ge (ld (basisL p (wideM M)) (n - 1)) n with h | h
    · exact h
    · exfalso
      have hI := det_ind hP hn hT hl h0
      have hz : ∀ k, k < n → ent (basisL p (wideM M)) (n - 1) (n + k) % p = 0 := fun k hk => hI (fun k => ent (basisL p (wideM M)) (n - 1) (n + k)) (fun q hq => by
        rw [hl, ← wide_row hP hT hl (by omega) hq, hR.before (n - 1) q (by omega), Int.zero_emod]) k (by omega)
      have h1 := hR.one (n - 1) (by omega)
      have h2 := hR.lt (n - 1) (by omega)
      have h4 := hz (ld (basisL p (wideM M)) (n - 1) - n) (by omega)
      rw [show n + (ld (basisL p (wideM M)) (n - 1) - n) = ld (basisL p (wideM M)) (n - 1) by omega, h1, Int.emod_eq_of_lt (by omega) (by omega)] at h4
      omega
/-- The inverse, from both sides. -/
theorem inv_right (hP : isP p = true) (hp : 0 < p) (hn : 0 < n) (hT : Tab p n M) (hl : M.length = n) (h : detL p M ≠ 0) :
    Mt.mk' hp hT hl * Mt.mk' hp (inv_tab hP hT hl) (inv_len hP hT hl) = Mt.one hp := by
  have e := inv_left hP hp hn hT hl ((inv_iff hP hn hT hl).2 h)
  have hs := detL_small (p := p) (by have := isP_ge hP; omega) M
  refine Mt.cancel_r hP hn (x := Mt.mk' hp hT hl) ?_ ?_
  · show detL p M % p ≠ 0
    rw [Int.emod_eq_of_lt hs.1 hs.2]; exact h
  · rw [Mt.mul_assoc, e, Mt.mul_one, Mt.one_mul]
theorem onePl_len (p : Int) (M : List (List Int)) (k : Int) : (onePl p M k).length = M.length := tab_len _ _
theorem onePl_tab (hp : 0 < p) (hT : Tab p n M) (hl : M.length = n) (k : Int) : Tab p n (onePl p M k) := Tab.tab fun i hi => ⟨by rw [plusL_len, unitRow_len, hl], plusL_nums hp _ _ _⟩
theorem onePl_ent (hT : Tab p n M) (hl : M.length = n) (k : Int) {i q : Nat} (hi : i < n) (hq : q < n) : ent (onePl p M k) i q = ((if i = q then 1 else 0) + k * ent M i q) % p := by
  unfold ent onePl
  rw [tab_getD (by omega)]
  unfold plusL
  rw [tab_getD (by rw [unitRow_len]; omega), hl, unitRow_ent hi hq]
theorem onePl_cg (M : List (List Int)) {k j : Int} (h : k % p = j % p) : onePl p M k = onePl p M j := by
  unfold onePl
  refine tab_congr fun i _ => ?_
  unfold plusL
  refine tab_congr fun q _ => cg_add rfl (cg_mul h rfl)
theorem plus_mk (hp : 0 < p) (hT : Tab p n M) (hl : M.length = n) : Mt.mk' hp (onePl_tab hp hT hl 1) ((onePl_len p M 1).trans hl) = Mt.plus hp (Mt.mk' hp hT hl) := Mt.same fun i j hi hj => by
  unfold Mt.plus
  rw [Mt.add_at _ _ hi hj, cg_add (Mt.one_at hp hi hj) rfl]
  show ent (onePl p M 1) i j % p = _
  rw [onePl_ent hT hl 1 hi hj, cg_self, Int.one_mul]; rfl
theorem minus_mk (hp : 0 < p) (hT : Tab p n M) (hl : M.length = n) : Mt.mk' hp (onePl_tab hp hT hl (-1)) ((onePl_len p M (-1)).trans hl) = Mt.minus hp (Mt.mk' hp hT hl) := Mt.same fun i j hi hj => by
  unfold Mt.minus
  rw [Mt.add_at _ _ hi hj, cg_add (Mt.one_at hp hi hj) (Mt.sm_at (-1) _ hi hj)]
  show ent (onePl p M (-1)) i j % p = _
  rw [onePl_ent hT hl (-1) hi hj, cg_self]; rfl
/-- What both programs compute: the inverse of 1 + m times 1 - m, and whether there is one. -/
def cayL (p : Int) (M : List (List Int)) : List (List Int) := timesM p (invL p (onePl p M 1)) (onePl p M (-1))
theorem cay_eq (hP : isP p = true) (hp : 0 < p) (hn : 0 < n) (hT : Tab p n M) (hl : M.length = n) (h : detL p (onePl p M 1) ≠ 0) :
    ∃ g : Mt p n, g.l = cayL p M ∧ Mt.plus hp (Mt.mk' hp hT hl) * g = Mt.minus hp (Mt.mk' hp hT hl) := by
  have hT1 := onePl_tab hp hT hl 1
  have hl1 := (onePl_len p M 1).trans hl
  refine ⟨Mt.mk' hp (inv_tab hP hT1 hl1) (inv_len hP hT1 hl1) * Mt.mk' hp (onePl_tab hp hT hl (-1)) ((onePl_len p M (-1)).trans hl), Mt.mul_l _ _ hn, ?_⟩
  rw [← plus_mk hp hT hl, ← minus_mk hp hT hl, ← Mt.mul_assoc, inv_right hP hp hn hT1 hl1 h, Mt.one_mul]
end
end Go.Proofs.YtdbibmilicjllaaGreat
namespace Go.Proofs.YtdbibmilicjllaaGreat
open Go.RowKit
section
variable {P : Program}
/-- A whole list is appended to a row of the call's own. -/
theorem wpList_appAll {ops : Array Oper} {rest : List Oper} {o : Oper} {a : Act} {Q : Exit → Act → World → Prop} (w0 wr : World)
    (hgd : o.guard = none) (s x : Operand) (ho : o.op = .call { callee := .builtin .append, args := #[s, x], argTypes := #[24, 24] })
    (A : Option Addr) (n c : Nat) (xs : List Int) (B : Option Addr) (m d : Nat) (ys : List Int) (hM : MkI w0 wr A n c xs) (hY : Rd wr B m (ints ys)) (h0 : 0 < m) (hn : n ≤ 65536) (hm : m ≤ 65536)
    (hs : a.eval s = .slice A n c) (hx : a.eval x = .slice B m d)
    (h : ∀ A' c' w', MkI w0 w' A' (n + m) c' (xs ++ ys) → wr.grownBy w' (Value.slice A n c).ownBlock → wpList Tryz.prog ops Q rest (a.put o.dst (.slice A' (n + m) c')) w') :
    wpList Tryz.prog ops Q (o :: rest) a wr := by
  obtain ⟨i, hi, h1, h2, h3⟩ := info_parts info_i
  obtain ⟨b1, b2⟩ := bound_of (show n + m ≤ 1099511627776 by omega)
  have hyl : ys.length = m := by have := hY.1; rwa [ints_length] at this
  obtain ⟨g, o', rfl, hc⟩ := hY.2 h0
  refine wpList_append_own_at wr hgd s x 24 ho w0.heap.size 2 i _ 1 8 Tryz.underlying24 hi h1 h2 h3 rfl (by omega) (.slice A n c) n (ints xs) hs hM.2 ⟨g, o', none⟩ m d (ints ys) hx (by rw [ints_length, hyl, Nat.mul_one]) (fun j u hu => by rw [Addr.add_lit]; exact hc j u hu) (by intro u hu; obtain ⟨y, _, rfl⟩ := List.mem_map.1 hu; rfl) (by simp only [maxLen]; omega) (by have := b2 8 (by omega); omega) hM.1.size ?_
  intro v' w' hown hg _ _
  have hb' : Below w0.heap.size w0 w' := hM.1.grown hg hM.1.size (fun k hk => (hM.2.lt k hk).1)
  have e : ints xs ++ ints ys = ints (xs ++ ys) := by unfold ints; rw [List.map_append]
  rw [e] at hown
  rcases hown.2 with ⟨_, h0⟩ | ⟨g, cap, cur, rfl, hr⟩
  · omega
  · exact h _ _ _ ⟨hb', hown⟩ hg
end
set_option maxHeartbeats 800000 in
set_option maxRecDepth 8000 in
theorem grow_any (n : Nat) (w : World) (h0 : 0 < n) (hn : n ≤ 65536) :
    Calls Tryz.prog 424 #[.slice none 0 0, .int .i64 n] w fun e w' => ∃ A c, e = .returned (.slice A 0 c) ∧ MkI w w' A 0 c [] := by
  obtain ⟨i, hi, h1, h2, h3⟩ := info_parts info_i
  have hrz := fun ty => Lib.run_append_nil_zeros (P := Tryz.prog) w 24 3 ty 2 i (.int .i64 0) .i64 .i64 Tryz.underlying24 Tryz.underlying3 hi h1 n h0 (by omega) (by omega) (by rw [h3]; omega)
  have hge := grownCap_ge w n 0 2
  have hle := grownCap_le_maxLen w n 0 2 (by simp only [maxLen]; omega)
  obtain ⟨G, hG⟩ : ∃ G, G = grownCap w n 0 2 := ⟨_, rfl⟩
  rw [← hG] at hrz hge hle
  obtain ⟨Z, hZ⟩ : ∃ Z, Z = Builtin.zeroCells (Value.int .i64 0).cells n ++ Builtin.zeroCells (Value.int .i64 0).cells (G - n) := ⟨_, rfl⟩
  rw [← hZ] at hrz
  have hZs : Z.size = G := by rw [hZ]; simp [size_zeroCells, Value.cells]; omega
  have hO := World.ownsRow_made (base := w.heap.size) (e := 2) (size := 1) w.drew Z G (Nat.le_refl _) hle (by omega)
  have hM : MkI w (w.drew.alloc (.cells Z 2)) (some ⟨w.heap.size, 0, none⟩) 0 G [] := ⟨(⟨rfl, rfl, rfl, Nat.le_refl _, fun _ _ => rfl⟩ : Below w.heap.size w w.drew).alloc (Nat.le_refl _) _, hO⟩
  have hG2 : G ≤ 9223372036854775807 := by unfold maxLen at hle; omega
  have t1 : ¬ ((n : Int) < 0) := by omega
  clear hZ hG hZs hO hle
  go_enter Tryz.func424, Tryz.ntmps424
  go_wp2_with (at_builtin; refine Lib.wpList_append_run _ rfl _ _ _ _ rfl _ _ rfl rfl _ _ (hrz _) ?_)
  go_ret
  exact ⟨_, _, rfl, hM⟩
theorem flatten_step {M : List (List Int)} {k : Nat} (h : k < M.length) : (M.take (k + 1)).flatten = (M.take k).flatten ++ M[k] := by
  rw [List.take_succ_eq_append_getElem h, List.flatten_append, List.flatten_cons, List.flatten_nil, List.append_nil]
theorem flatten_le {M : List (List Int)} {b : Nat} (h : ∀ r ∈ M, r.length ≤ b) : ∀ k, (M.take k).flatten.length ≤ k * b := by
  intro k
  induction k with
  | zero => simp
  | succ k ih =>
    by_cases hk : k < M.length
    · rw [flatten_step hk, List.length_append]
      have := h M[k] (List.getElem_mem hk)
      rw [Nat.add_mul]; omega
    · rw [List.take_of_length_le (by omega)] at ih ⊢
      rw [Nat.add_mul]; omega
set_option maxHeartbeats 1600000 in
set_option maxRecDepth 8000 in
theorem concat_any (A : Option Addr) (n c : Nat) (M : List (List Int)) (w : World) (h0 : 0 < n) (hn : n ≤ 16) (ha : RdII w A n M) (hr : ∀ r ∈ M, 0 < r.length ∧ r.length ≤ 1000) :
    Calls Tryz.prog 308 #[.slice A n c] w fun e w' => ∃ A' c', e = .returned (.slice A' M.flatten.length c') ∧ MkI w w' A' M.flatten.length c' M.flatten := by
  have HR := Lib.hid hr
  have HL := Lib.hid ha.len
  have HF := Lib.hid (flatten_le (M := M) (b := 1000) fun r h => (hr r h).2)
  have hpos : 0 < M.flatten.length := by
    cases M with
    | nil => have := ha.len; simp at this; omega
    | cons r M => rw [List.flatten_cons, List.length_append]; have := (hr r (by simp)).1; omega
  have hle : M.flatten.length ≤ 16000 := by
    have := HF.out n
    rw [List.take_of_length_le (by rw [HL.out]; omega)] at this
    omega
  obtain ⟨T, hT⟩ : ∃ T, T = M.flatten.length := ⟨_, rfl⟩
  have HT := Lib.hid hT
  rw [← hT] at hpos hle ⊢
  have hgr := fun w' => grow_any T w' hpos (by omega)
  clear hr hT
  go_enter Tryz.func308, Tryz.ntmps308
  go_wp2
  go_loopw [3, 11] (fun s i wr => ∃ (k z : Nat), k ≤ n ∧ i = .int .i64 k ∧ s = .int .i64 z ∧ z = (M.take k).flatten.length ∧ w = wr) (fun _ i _ => n - (intOf i).toNat)
  case atStart => exact ⟨0, 0, by omega, rfl, rfl, rfl, rfl⟩
  case round =>
    obtain ⟨k, z, hk, rfl, rfl, hz, rfl⟩ := hrel
    have HZ := Lib.hid hz
    have hz2 := HF.out k
    rw [← hz] at hz2
    have hz3 : z ≤ 16000 := by omega
    clear hz hz2
    by_cases hlt : k < n
    · obtain ⟨g, o, rfl, hx, A1, c1, hc1, hr1, hcap⟩ := ha.at_ hlt
      have hl := (HR.out M[k] (List.getElem_mem hx)).2
      have HS : Hid ((M.take (k + 1)).flatten.length = z + M[k].length) := Lib.hid (by rw [flatten_step hx, List.length_append, ← HZ.out])
      obtain ⟨q, hq⟩ : ∃ q, q = M[k].length := ⟨_, rfl⟩
      rw [← hq] at hc1 hl HS
      clear hr1 hcap hq
      have e1 : IntKind.i64.wrap ((z : Int) + (q : Int)) = ((z + q : Nat) : Int) := by rw [i64_fit _ (by omega) (by omega)]; omega
      have t1 : ¬ (((z + q : Nat) : Int) < 0) := by omega
      go_wp2
      go_roundw
      case rel => exact ⟨k + 1, z + q, by omega, by go_num, rfl, HS.out.symm, by first | rfl | trivial⟩
      case measure => simp [intOf]; omega
    · obtain rfl : k = n := by omega
      obtain rfl : z = T := by rw [HZ.out, HT.out, List.take_of_length_le (by rw [HL.out]; omega)]
      go_wp2_with fail
      refine (hgr _).mono ?_
      rintro e w1 ⟨A0, c0, rfl, hM0⟩
      go_wp2
      clear hgr
      go_loopw [6, 27] (fun s i wr => ∃ (j z : Nat) (B : Option Addr) (d : Nat), j ≤ k ∧ i = .int .i64 j ∧ s = .slice B z d ∧ z = (M.take j).flatten.length ∧ MkI w wr B z d (M.take j).flatten) (fun _ i _ => k - (intOf i).toNat)
      case atStart => exact ⟨0, 0, _, _, by omega, rfl, rfl, rfl, by simpa using hM0⟩
      case round =>
        obtain ⟨j, y, B, d, hj, rfl, rfl, hy, hM⟩ := hrel
        have HY := Lib.hid hy
        have hy2 := HF.out j
        rw [← hy] at hy2
        have hy3 : y ≤ 16000 := by omega
        clear hy hy2
        by_cases hjt : j < k
        · have hb1 : Below w.heap.size w wr := hM.b
          obtain ⟨g, o, rfl, hx, A1, c1, hc1, hr1, hcap⟩ := (ha.below hb1).at_ hjt
          obtain ⟨hl0, hl⟩ := HR.out M[j] (List.getElem_mem hx)
          have HS : Hid ((M.take (j + 1)).flatten = (M.take j).flatten ++ M[j]) := Lib.hid (flatten_step hx)
          obtain ⟨q, hq⟩ : ∃ q, q = M[j].length := ⟨_, rfl⟩
          rw [← hq] at hc1 hl hl0 hr1
          have HM := Lib.hid hM
          have HQ := Lib.hid hq
          have HR1 := Lib.hid hr1
          clear hM hq hr1 hcap hM0
          go_wp2_with (at_builtin; refine wpList_appAll w wr rfl _ _ rfl B y d _ A1 q c1 _ HM.out HR1.out hl0 (by omega) (by omega) rfl rfl ?_; intro A' c' w' hM' _)
          go_roundw
          case rel => exact ⟨j + 1, y + q, A', c', by omega, by go_num, rfl, by rw [HS.out, List.length_append, ← HY.out, ← HQ.out], by rw [HS.out]; exact hM'⟩
          case measure => simp [intOf]; omega
        · obtain rfl : j = k := by omega
          have e9 : M.take j = M := List.take_of_length_le (by rw [HL.out]; omega)
          rw [e9] at hM
          obtain rfl : y = z := by rw [HY.out, HT.out, e9]
          go_wp2
          go_ret
          exact ⟨_, _, rfl, hM⟩
end Go.Proofs.YtdbibmilicjllaaGreat
namespace Go.Proofs.YtdbibmilicjllaaGreat
open Go.RowKit
section
variable {P : Program} {ops : Array Oper} {Q : Exit → Act → World → Prop}
/-- Those whose values are good still when operation j is done (C: what each uses up). -/
def availL (R C : List (List Nat)) (m j : Nat) : List Nat := (R.getD j []).filter fun i => (List.range m).all fun k => !((C.getD k []).contains i) || k == j || (R.getD k []).contains j
/-- .. and at the end of the first m. -/
def endL (C : List (List Nat)) (m : Nat) : List Nat := (List.range m).filter fun i => (List.range m).all fun k => !((C.getD k []).contains i)
/-- Below what operation j leaves all as it was. -/
def lim (C : List (List Nat)) (B : Nat) (j : Nat) (w : World) : Nat := if (C.getD j []).isEmpty then w.heap.size else B
theorem not_contains {L : List Nat} {i : Nat} : (!(L.contains i)) = true ↔ i ∉ L := by
  rw [Bool.not_eq_true', ← Bool.not_eq_true, List.contains_iff_mem]
theorem avail_spec {R C : List (List Nat)} {m j i : Nat} : i ∈ availL R C m j ↔ i ∈ R.getD j [] ∧ ∀ k, k < m → i ∈ C.getD k [] → k = j ∨ j ∈ R.getD k [] := by
  unfold availL
  rw [List.mem_filter, List.all_eq_true]
  refine and_congr_right fun _ => ⟨fun h k hk hi => ?_, fun h k hk => ?_⟩
  · have h1 := h k (List.mem_range.2 hk)
    rw [Bool.or_eq_true, Bool.or_eq_true, not_contains, beq_iff_eq, List.contains_iff_mem] at h1
    rcases h1 with (h1 | h1) | h1
    · exact absurd hi h1
    · exact .inl h1
    · exact .inr h1
  · rw [Bool.or_eq_true, Bool.or_eq_true, not_contains, beq_iff_eq, List.contains_iff_mem]
    by_cases hi : i ∈ C.getD k []
    · rcases h k (List.mem_range.1 hk) hi with h1 | h1
      · exact .inl (.inr h1)
      · exact .inr h1
    · exact .inl (.inl hi)
theorem end_spec {C : List (List Nat)} {m i : Nat} : i ∈ endL C m ↔ i < m ∧ ∀ k, k < m → i ∉ C.getD k [] := by
  unfold endL
  rw [List.mem_filter, List.all_eq_true, List.mem_range]
  exact and_congr_right fun _ => ⟨fun h k hk => not_contains.1 (h k (List.mem_range.2 hk)), fun h k hk => not_contains.2 (h k (List.mem_range.1 hk))⟩
/-- What is to be shown of operation j. -/
def ObD (P : Program) (ops : Array Oper) (S : World → Prop) (R C : List (List Nat)) (B m : Nat) (V : (Nat → Value) → List VP) (x : Nat → Value) (a0 : Act) (j : Nat) : Prop :=
  ∀ w, S w → (∀ i ∈ availL R C m j, ((V x).getD i VAny).p (x i) w) →
    wpOp P ops NoWay j (fun a' w' => ∃ v, (∀ d, dstOf ops j = some d → a'.tmps[d]? = some v) ∧ a'.defers = a0.defers ∧ ((V x).getD j VAny).p v w' ∧ Below (lim C B j w) w w') (putS ops x a0 j) w
theorem tasks_goD {m B : Nat} {R C : List (List Nat)} {V : (Nat → Value) → List VP} {S : World → Prop} {a0 : Act} (hok : tasksOk ops m a0.tmps.size R = true)
    (hdep : ∀ x x' j, (∀ i ∈ R.getD j [], x i = x' i) → (V x).getD j VAny = (V x').getD j VAny) (hweak : ∀ i, i < m → (C.getD i []).isEmpty = false → ∀ k, k < m → k ≠ i → i ∉ R.getD k [] → k ∉ C.getD i [] → ∀ x v w w', ((V x).getD k VAny).p v w → Below B w w' → ((V x).getD k VAny).p v w') (hSt : ∀ j w w', S w → Below (lim C B j w) w w' → S w') (hob : ∀ x j, j < m → ObD P ops S R C B m V x a0 j)
    (hend : ∀ x w', S w' → (∀ i ∈ endL C m, ((V x).getD i VAny).p (x i) w') → wpAny P .any ops Q (ops.size - m) (listedTo ops.size m) (putS ops x a0 m) w') :
    ∀ (c : Nat) (U : List Nat) (listed : Array Bool) (w : World) (x : Nat → Value), U.length = c → U.Nodup → (∀ i, i ∈ U ↔ i < m ∧ listed.getD i false = false) → listed.size = ops.size →
      (∀ i, m ≤ i → i < ops.size → listed.getD i false = false) → (∀ (j : Nat) (o : Oper), ops[j]? = some o → listed.getD j false = true → ∀ e ∈ o.after, Region.binds .any e = true → listed.getD e.on false = true) →
      S w → (∀ i, i < m → listed.getD i false = true → (∀ j, j < m → i ∈ C.getD j [] → listed.getD j false = false) → ((V x).getD i VAny).p (x i) w) → wpAny P .any ops Q (ops.size - m + c) listed (putD ops (fun i => listed.getD i false) x a0 m) w := by
  obtain ⟨hmn, hspec, htail⟩ := tasks_spec hok
  have hsel : Region.noSelect ops = true := by unfold tasksOk at hok; simp only [Bool.and_eq_true] at hok; exact hok.1.1
  intro c
  induction c with
  | zero =>
    intro U listed w x hU hnd hmem hsz hun hcl hS hV
    obtain rfl : U = [] := List.eq_nil_of_length_eq_zero hU
    have hall : ∀ i, i < m → listed.getD i false = true := fun i hi => by
      cases h : listed.getD i false
      · exact absurd ((hmem i).2 ⟨hi, h⟩) (by simp)
      · rfl
    have hl : listed = listedTo ops.size m := by
      apply Array.ext
      · simp [listedTo, hsz]
      · intro i h1 h2
        have e : listed.getD i false = listed[i] := by simp [Array.getD, h1]
        by_cases hi : i < m
        · have := hall i hi
          rw [e] at this
          simp [listedTo, this, hi]
        · have := hun i (by omega) (by omega)
          rw [e] at this
          simp [listedTo, this, hi]
    rw [Nat.add_zero, putD_congr (ops := ops) _ (fun _ => true) x x a0 m (fun i hi => ⟨hall i hi, fun _ => rfl⟩), hl]
    exact hend x w hS (fun i hi => hV i (end_spec.1 hi).1 (hall i (end_spec.1 hi).1) (fun j hj hc => absurd hc ((end_spec.1 hi).2 j hj)))
  | succ c ih =>
    intro U listed w x hU hnd hmem hsz hun hcl hS hV
    have hne : U ≠ [] := fun e => by rw [e] at hU; simp at hU
    show (_ → _) ∧ _
    refine ⟨fun hr => ?_, fun i hi => ?_⟩
    · exfalso
      obtain ⟨i, hiU, hmin⟩ := min_mem U hne
      obtain ⟨him, hil⟩ := (hmem i).1 hiU
      have hlt : i < ops.size := by omega
      have : i ∈ Region.ready .any ops listed := mem_ready.2 ⟨by simpa [Array.getD, hsz, hlt] using hil, _, Array.getElem?_eq_getElem hlt, fun e he hb => by
        have hlti := (hspec i _ (Array.getElem?_eq_getElem hlt) him).1 e he hb
        cases h : listed.getD e.on false
        · have := hmin e.on ((hmem _).2 ⟨by omega, h⟩); omega
        · rfl⟩
      rw [hr] at this
      cases this
    · obtain ⟨hil, o, ho, hdeps⟩ := mem_ready.1 hi
      have hlt : i < ops.size := (Array.getElem?_eq_some_iff.1 ho).1
      have hil' : listed.getD i false = false := by simpa [Array.getD, hsz, hlt] using hil
      have hreach := listed_reach hok (fun i => listed.getD i false) hcl i o ho hdeps
      have him : i < m := by
        rcases Nat.lt_or_ge i m with h | h
        · exact h
        · exfalso
          obtain ⟨k, hk⟩ := List.exists_mem_of_ne_nil U hne
          obtain ⟨hkm, hkl⟩ := (hmem k).1 hk
          have := hreach k (htail i hlt h k hkm)
          rw [hkl] at this; cases this
      obtain ⟨_, ⟨d, hd, hdsz, hduniq⟩, hlook⟩ := hspec i o ho him
      have hdst : dstOf ops i = some d := by simp [dstOf, ho, hd]
      have hso : ∀ cs b, o.op ≠ .select cs b := fun cs b => Region.noSelect_spec hsel i o cs b ho
      -- the two frames agree on what o looks at
      have hagree : ∀ t ∈ o.looksAt ops, (putD ops (fun i => listed.getD i false) x a0 m).tmps[t]? = (putS ops x a0 i).tmps[t]? := fun t ht => by
        by_cases hex : ∃ k, k < m ∧ dstOf ops k = some t
        · obtain ⟨k, hkm, hkd⟩ := hex
          have hkR := hlook t ht k hkm hkd
          have hki := reach_lt hok i hlt k hkR
          have hkl := hreach k hkR
          have hks : k < ops.size := by omega
          obtain ⟨_, ⟨d', hd', hdsz', hu'⟩, _⟩ := hspec k _ (Array.getElem?_eq_getElem hks) hkm
          have htd : d' = t := by
            have : dstOf ops k = some d' := by simp [dstOf, Array.getElem?_eq_getElem hks, hd']
            rw [hkd] at this; injection this with this; exact this.symm
          rw [putD_at _ _ _ _ k hkd hkl (htd ▸ hdsz') m hkm (fun l hl hlk => htd ▸ hu' l hl hlk)]
          unfold putS
          rw [putD_at _ _ _ _ k hkd rfl (htd ▸ hdsz') i hki (fun l hl hlk => htd ▸ hu' l (by omega) hlk)]
        · rw [putD_other _ _ _ _ m (fun k hk hkd => absurd ⟨k, hk, hkd⟩ hex)]
          unfold putS
          rw [putD_other _ _ _ _ i (fun k hk hkd => absurd ⟨k, by omega, hkd⟩ hex)]
      have hob' := hob x i him w hS (fun k hk => by
        obtain ⟨hkR, hkC⟩ := avail_spec.1 hk
        refine hV k (by have := reach_lt hok i hlt k hkR; omega) (hreach k hkR) (fun j hj hc => ?_)
        rcases hkC j hj hc with rfl | hij
        · exact hil'
        · cases hjl : listed.getD j false
          · rfl
          · have hjs : j < ops.size := by omega
            have := listed_reach hok (fun i => listed.getD i false) hcl j _ (Array.getElem?_eq_getElem hjs) (hcl j _ (Array.getElem?_eq_getElem hjs) hjl) i hij
            rw [hil'] at this; cases this)
      have hsz1 := putD_size (ops := ops) (fun _ => true) x a0 i
      -- what comes behind
      have next : ∀ v w', ((V x).getD i VAny).p v w' → Below (lim C B i w) w w' → wpAny P .any ops Q (ops.size - m + c) (listed.setIfInBounds i true) ((putD ops (fun i => listed.getD i false) x a0 m).put (some d) v) w' := fun v w' hv hb => by
        have hput := putD_put (ops := ops) (fun k => listed.getD k false) (fun k => (listed.setIfInBounds i true).getD k false) x (fun k => if k = i then v else x k) a0 i hil'
          (by simp [hsz, hlt]) (fun k hk => ⟨by rw [getD_set_ne _ (Ne.symm hk)], by simp [hk]⟩) m him
          (fun d' k hk hki hd' => by rw [hdst] at hd'; injection hd' with hd'; exact hd' ▸ hduniq k hk hki)
        simp only [if_true] at hput
        rw [← hdst, hput]
        refine ih (U.erase i) _ _ _ ?_ (hnd.erase _) (fun k => ?_) (by simpa using hsz) (fun k h1 h2 => ?_) (fun j oj hoj hj e he hb' => ?_) (hSt i _ _ hS hb) (fun k hk hkl hcons => ?_)
        · rw [List.length_erase_of_mem ((hmem i).2 ⟨him, hil'⟩), hU]; rfl
        · rw [hnd.mem_erase_iff, hmem]
          by_cases hk : k = i
          · subst hk; simp [hsz, hlt]
          · rw [getD_set_ne _ (Ne.symm hk)]; simp [hk]
        · rw [getD_set_ne _ (by omega)]; exact hun k h1 h2
        · by_cases hji : j = i
          · subst hji
            rw [ho] at hoj; injection hoj with hoj; subst hoj
            exact getD_set_true (hdeps e he hb')
          · rw [getD_set_ne _ (Ne.symm hji)] at hj
            exact getD_set_true (hcl j oj hoj hj e he hb')
        · by_cases hki : k = i
          · subst hki
            rw [hdep _ x k (fun l hl => by have := reach_lt hok k hlt l hl; simp only [show l ≠ k by omega, if_false])]
            simpa using hv
          · rw [getD_set_ne _ (Ne.symm hki)] at hkl
            have hks : k < ops.size := by omega
            have hdk : (V fun l => if l = i then v else x l).getD k VAny = (V x).getD k VAny := hdep _ x k (fun l hl => by
              have hll := listed_reach hok (fun i => listed.getD i false) hcl k _ (Array.getElem?_eq_getElem hks) (hcl k _ (Array.getElem?_eq_getElem hks) hkl) l hl
              have hne : l ≠ i := fun e => by rw [e] at hll; rw [hil'] at hll; cases hll
              simp only [hne, if_false])
            simp only [hki, if_false]
            rw [hdk]
            have hb0 : ∀ j, j < m → k ∈ C.getD j [] → listed.getD j false = false := fun j hj hc => by
              have h1 := hcons j hj hc
              by_cases hji : j = i
              · rw [hji]; exact hil'
              · rwa [getD_set_ne _ (Ne.symm hji)] at h1
            have hkC : k ∉ C.getD i [] := fun hc => by
              have h1 := hcons i him hc
              simp [hsz, hlt] at h1
            have hiR : i ∉ R.getD k [] := fun hik => by
              have := listed_reach hok (fun i => listed.getD i false) hcl k _ (Array.getElem?_eq_getElem hks) (hcl k _ (Array.getElem?_eq_getElem hks) hkl) i hik
              rw [hil'] at this; cases this
            cases he : (C.getD i []).isEmpty
            · rw [show lim C B i w = B by unfold lim; rw [he]; rfl] at hb
              exact hweak i him he k hk hki hiR hkC x _ _ _ (hV k hk hkl hb0) hb
            · rw [show lim C B i w = w.heap.size by unfold lim; rw [he]; rfl] at hb
              exact ((V x).getD k VAny).st _ _ _ (hV k hk hkl hb0) hb
      unfold wpOp at hob' ⊢
      simp only [ho] at hob' ⊢
      rw [wanted_same hagree]
      split
      · rename_i hw
        rw [if_pos hw] at hob'
        rcases hob' with h | ⟨_, h⟩
        case inr => exact absurd h NoWay.lets
        refine .inl (Oper.wp_mono ?_ (wp_move (Q := Q) (d := d) (R := fun v w' => ((V x).getD i VAny).p v w' ∧ Below (lim C B i w) w w') (exec_same hso hagree) hd (by unfold putS; rw [hsz1.1]; exact hdsz)
          (Oper.wp_mono (fun a' w' ⟨v, h1, h2, h3, h4⟩ => ⟨v, h1 d hdst, by unfold putS; rw [hsz1.2]; exact h2, h3, h4⟩) h)))
        rintro a' w' ⟨v, rfl, hv, hb⟩
        exact next v w' hv hb
      · rename_i hw
        rw [if_neg hw] at hob'
        obtain ⟨v, h1, _, h3, h4⟩ := hob'
        have hvu : v = undef := by
          have := h1 d hdst
          rw [hd] at this
          simp [Act.put, putS, hsz1.1, hdsz] at this
          exact this.symm
        rw [hd]
        exact next undef w (hvu ▸ h3) h4
/-- **A region that draws its order**: each of its first m operations is shown once; what is left behind them goes on. -/
theorem wp_tasksD {id m B : Nat} (R C : List (List Nat)) (V : (Nat → Value) → List VP) (S : World → Prop) {a0 : Act} {w : World} (hm : P.follows .mixedOrders = true) (hok : tasksOk ops m a0.tmps.size R = true)
    (hdep : ∀ x x' j, (∀ i ∈ R.getD j [], x i = x' i) → (V x).getD j VAny = (V x').getD j VAny) (hweak : ∀ i, i < m → (C.getD i []).isEmpty = false → ∀ k, k < m → k ≠ i → i ∉ R.getD k [] → k ∉ C.getD i [] → ∀ x v w w', ((V x).getD k VAny).p v w → Below B w w' → ((V x).getD k VAny).p v w') (hS0 : S w.drew) (hSt : ∀ j w w', S w → Below (lim C B j w) w w' → S w') (hob : ∀ x j, j < m → ObD P ops S R C B m V x a0 j)
    (hend : ∀ x w', S w' → (∀ i ∈ endL C m, ((V x).getD i VAny).p (x i) w') → wpAny P .any ops Q (ops.size - m) (listedTo ops.size m) (putS ops x a0 m) w') : (Code.region id ops true).wp P Q a0 w := by
  have hmn := (tasks_spec hok).1
  have hf : ∀ i, (Array.replicate ops.size false).getD i false = false := fun i => by simp [Array.getD]
  have h := tasks_goD (Q := Q) hok hdep hweak hSt hob hend m (List.range m) (Array.replicate ops.size false) w.drew (fun _ => undef) (by simp) List.nodup_range (fun i => by rw [hf]; simp) (by simp) (fun i _ _ => hf i) (fun j o _ hj => by rw [hf] at hj; cases hj) hS0
    (fun i _ hi => by rw [hf] at hi; cases hi)
  refine wp_region_any hm ?_
  rw [show ops.size - m + m = ops.size by omega, putD_congr (ops := ops) _ (fun _ => false) _ (fun _ => undef) a0 m (fun i _ => ⟨hf i, fun _ => rfl⟩)] at h
  have e : ∀ n, putD ops (fun _ => false) (fun _ => undef) a0 n = a0 := fun n => by
    induction n with
    | zero => rfl
    | succ n ih => unfold putD; simpa using ih
  rw [e] at h
  exact h
/-- What is to be shown, operation by operation, in the text's order; the frame goes along. -/
def ObsD (P : Program) (ops : Array Oper) (Q : Exit → Act → World → Prop) (S : World → Prop) (R C : List (List Nat)) (B m : Nat) (V : (Nat → Value) → List VP) (x : Nat → Value) : Nat → Nat → Act → Prop
  | 0, j, a => ∀ w, S w → (∀ i ∈ endL C m, ((V x).getD i VAny).p (x i) w) → wpAny P .any ops Q (ops.size - j) (listedTo ops.size j) a w
  | r + 1, j, a => (∀ w, S w → (∀ i ∈ availL R C m j, ((V x).getD i VAny).p (x i) w) →
      wpOp P ops NoWay j (fun a' w' => ∃ v, (∀ d, dstOf ops j = some d → a'.tmps[d]? = some v) ∧ a'.defers = a.defers ∧ ((V x).getD j VAny).p v w' ∧ Below (lim C B j w) w w') a w) ∧
    ObsD P ops Q S R C B m V x r (j + 1) (a.put (dstOf ops j) (x j))
theorem obs_allD {S : World → Prop} {R C : List (List Nat)} {B m : Nat} {V : (Nat → Value) → List VP} {x : Nat → Value} {a0 : Act} : ∀ (r j : Nat), ObsD P ops Q S R C B m V x r j (putS ops x a0 j) →
    (∀ k, j ≤ k → k < j + r → ObD P ops S R C B m V x a0 k) ∧ ∀ w, S w → (∀ i ∈ endL C m, ((V x).getD i VAny).p (x i) w) → wpAny P .any ops Q (ops.size - (j + r)) (listedTo ops.size (j + r)) (putS ops x a0 (j + r)) w := by
  intro r
  induction r with
  | zero => intro j h; exact ⟨fun k h1 h2 => by omega, h⟩
  | succ r ih =>
    intro j h
    obtain ⟨h1, h2⟩ := h
    have h2' : ObsD P ops Q S R C B m V x r (j + 1) (putS ops x a0 (j + 1)) := h2
    obtain ⟨h3, h4⟩ := ih (j + 1) h2'
    refine ⟨fun k hk1 hk2 => ?_, by rw [show j + (r + 1) = j + 1 + r by omega]; exact h4⟩
    by_cases hk : k = j
    · subst hk
      intro w hS hV
      have h := h1 w hS hV
      rw [show (putS ops x a0 k).defers = a0.defers from (putD_size _ _ _ _).2] at h
      exact h
    · exact h3 k (by omega) (by omega)
theorem wp_obsD {id : Nat} (m B : Nat) (R C : List (List Nat)) (V : (Nat → Value) → List VP) (S : World → Prop) {a0 : Act} {w : World} (hm : P.follows .mixedOrders = true) (hok : tasksOk ops m a0.tmps.size R = true)
    (hdep : ∀ x x' j, (∀ i ∈ R.getD j [], x i = x' i) → (V x).getD j VAny = (V x').getD j VAny) (hweak : ∀ i, i < m → (C.getD i []).isEmpty = false → ∀ k, k < m → k ≠ i → i ∉ R.getD k [] → k ∉ C.getD i [] → ∀ x v w w', ((V x).getD k VAny).p v w → Below B w w' → ((V x).getD k VAny).p v w') (hSt : ∀ j w w', S w → Below (lim C B j w) w w' → S w') (hS0 : S w.drew) (h : ∀ x, ObsD P ops Q S R C B m V x m 0 a0) : (Code.region id ops true).wp P Q a0 w :=
  wp_tasksD (m := m) (B := B) R C V S hm hok hdep hweak hS0 hSt (fun x j hj => (obs_allD m 0 (h x)).1 j (by omega) (by omega)) (fun x w' hS hV => by
    have := (obs_allD m 0 (h x)).2 w' hS (hV)
    rwa [Nat.zero_add] at this)
theorem obs_stepD {S : World → Prop} {R C : List (List Nat)} {B m : Nat} {V : (Nat → Value) → List VP} {x : Nat → Value} {r j : Nat} {a : Act} {o : Oper} {d : Tmp} (ho : ops[j]? = some o) (hd : o.dst = some d)
    (h : ∀ w, S w → (∀ i ∈ availL R C m j, ((V x).getD i VAny).p (x i) w) → ∀ K : Act → World → Prop, Shut (∀ a' w' v, a'.tmps[d]? = some v → a'.defers = a.defers → ((V x).getD j VAny).p v w' → Below (lim C B j w) w w' → K a' w') →
      if Region.wanted o (yielded ops a.tmps) = true then Oper.wp P o a w K NoWay else K (a.put o.dst undef) w)
    (hr : ObsD P ops Q S R C B m V x r (j + 1) { a with tmps := a.tmps.setIfInBounds d (x j) }) : ObsD P ops Q S R C B m V x (r + 1) j a := by
  have hdst : dstOf ops j = some d := by simp [dstOf, ho, hd]
  refine ⟨fun w hS hV => wpOp_step ho (fun K hK => ?_), by rw [hdst]; exact hr⟩
  exact h w hS hV K (fun a' w' v h1 h2 h3 h4 => hK a' w' ⟨v, fun d' hd' => by rw [hdst] at hd'; injection hd' with hd'; exact hd' ▸ h1, h2, h3, h4⟩)
/-- Those that bear an append in place: their values are plain. -/
theorem weak_of {m B : Nat} {R C : List (List Nat)} {V : (Nat → Value) → List VP} (Wk : List Nat)
    (hchk : ((List.range m).all fun i => (C.getD i []).isEmpty || (List.range m).all fun k => k == i || (R.getD k []).contains i || (C.getD i []).contains k || Wk.contains k) = true)
    (hW : ∀ k ∈ Wk, ∀ x, ∃ u, (V x).getD k VAny = VIs u) :
    ∀ i, i < m → (C.getD i []).isEmpty = false → ∀ k, k < m → k ≠ i → i ∉ R.getD k [] → k ∉ C.getD i [] → ∀ x v w w', ((V x).getD k VAny).p v w → Below B w w' → ((V x).getD k VAny).p v w' := by
  intro i hi he k hk hne hR hC x v w w' hp _
  have h1 := List.all_eq_true.1 hchk i (List.mem_range.2 hi)
  rw [he, Bool.false_or] at h1
  have h2 := List.all_eq_true.1 h1 k (List.mem_range.2 hk)
  rw [Bool.or_eq_true, Bool.or_eq_true, Bool.or_eq_true, beq_iff_eq, List.contains_iff_mem, List.contains_iff_mem, List.contains_iff_mem] at h2
  rcases h2 with ((h2 | h2) | h2) | h2
  · exact absurd h2 hne
  · exact absurd h2 hR
  · exact absurd h2 hC
  · obtain ⟨u, hu⟩ := hW k h2 x
    rw [hu] at hp ⊢
    exact hp
theorem lim_ge {C : List (List Nat)} {B j : Nat} {w : World} (h : B ≤ w.heap.size) : B ≤ lim C B j w := by
  unfold lim
  split
  · exact h
  · exact Nat.le_refl _
end
end Go.Proofs.YtdbibmilicjllaaGreat
namespace Go.Proofs.YtdbibmilicjllaaGreat
open Go.RowKit
def CK (w w' : World) : Prop := ∀ b i u, w.cell? ⟨b, i, none⟩ = some u → w'.cell? ⟨b, i, none⟩ = some u
theorem CK.refl (w : World) : CK w w := fun _ _ _ h => h
theorem Rd.ck {w w' : World} {A : Option Addr} {n : Nat} {us : List Value} (h : Rd w A n us) (k : CK w w') : Rd w' A n us := ⟨h.1, fun hn => by
  obtain ⟨g, o, e, hc⟩ := h.2 hn
  exact ⟨g, o, e, fun j u hu => k _ _ _ (hc j u hu)⟩⟩
theorem RdII.ck {w w' : World} {A : Option Addr} {n : Nat} {xss : List (List Int)} (h : RdII w A n xss) (k : CK w w') : RdII w' A n xss := by
  obtain ⟨rows, hr, hl, hk⟩ := h
  exact ⟨rows, hr.ck k, hl, fun j hj => by obtain ⟨A', c', e, h1, h2⟩ := hk j hj; exact ⟨A', c', e, h1.ck k, h2⟩⟩
/-- A row that grows; it began as the empty block g; what lay in w is as it was. -/
def Grows (w wr : World) (g : Nat) (v : Value) : Prop := CK w wr ∧ w.heap.size ≤ wr.heap.size ∧ ∀ gb, v.ownBlock = some gb → gb = g ∨ w.heap.size ≤ gb
theorem Grows.step {w wr v1 w' : World} {g : Nat} {T : TypeId} {A A' : Option Addr} {n c n' c' : Nat} (h : Grows w wr g (.slice A n c)) (he : Blk w g T #[]) (hb : Below wr.heap.size wr v1) (hg : v1.grownBy w' (Value.slice A n c).ownBlock)
    (hat : ∃ g', A' = some ⟨g', 0, none⟩ ∧ ((Value.slice A n c).ownBlock = some g' ∨ v1.heap.size ≤ g')) : Grows w w' g (.slice A' n' c') := by
  obtain ⟨h1, h2, h3⟩ := h
  refine ⟨fun b i u hu => ?_, by have := hb.size; have := hg.size; omega, fun gb hgb => ?_⟩
  · refine hg.cell ((hb.cell (World.block_lt_of_cell? _ _ (h1 b i u hu))).trans (h1 b i u hu)) fun e => ?_
    rcases h3 b e.symm with rfl | hge
    · rw [he.cell] at hu; simp at hu
    · have hlt : b < w.heap.size := World.block_lt_of_cell? _ _ hu
      omega
  · obtain ⟨g', rfl, hor⟩ := hat
    simp only [Value.ownBlock, Option.some.injEq] at hgb
    subst hgb
    rcases hor with hor | hor
    · exact h3 _ hor
    · right; have := hb.size; omega
end Go.Proofs.YtdbibmilicjllaaGreat
namespace Go.Proofs.YtdbibmilicjllaaGreat
open Go.RowKit
section
variable {P : Program} {ops : Array Oper} {Q : Exit → Act → World → Prop}
/-- Those whose values are good still when operation j is done (C: what each uses up). -/
def availR (R C : List (List Nat)) (m j : Nat) : List Nat := (R.getD j []).filter fun i => (List.range m).all fun k => !((C.getD k []).contains i) || k == j || (R.getD k []).contains j
/-- .. and at the end of the first m. -/
def endR (C : List (List Nat)) (m : Nat) : List Nat := (List.range m).filter fun i => (List.range m).all fun k => !((C.getD k []).contains i)
/-- What operation j may do to the world: add to it, or, where C has something at j, what Rel allows. -/
def StepR (C : List (List Nat)) (Rel : World → World → Prop) (j : Nat) (w w' : World) : Prop := if (C.getD j []).isEmpty then Below w.heap.size w w' else Rel w w'
theorem StepR.either {C : List (List Nat)} {Rel : World → World → Prop} {j : Nat} {w w' : World} {q : Prop} (h : StepR C Rel j w w') (h1 : Below w.heap.size w w' → q) (h2 : Rel w w' → q) : q := by
  unfold StepR at h
  split at h
  · exact h1 h
  · exact h2 h
theorem not_containsR {L : List Nat} {i : Nat} : (!(L.contains i)) = true ↔ i ∉ L := by
  rw [Bool.not_eq_true', ← Bool.not_eq_true, List.contains_iff_mem]
theorem availR_spec {R C : List (List Nat)} {m j i : Nat} : i ∈ availR R C m j ↔ i ∈ R.getD j [] ∧ ∀ k, k < m → i ∈ C.getD k [] → k = j ∨ j ∈ R.getD k [] := by
  unfold availR
  rw [List.mem_filter, List.all_eq_true]
  refine and_congr_right fun _ => ⟨fun h k hk hi => ?_, fun h k hk => ?_⟩
  · have h1 := h k (List.mem_range.2 hk)
    rw [Bool.or_eq_true, Bool.or_eq_true, not_containsR, beq_iff_eq, List.contains_iff_mem] at h1
    rcases h1 with (h1 | h1) | h1
    · exact absurd hi h1
    · exact .inl h1
    · exact .inr h1
  · rw [Bool.or_eq_true, Bool.or_eq_true, not_containsR, beq_iff_eq, List.contains_iff_mem]
    by_cases hi : i ∈ C.getD k []
    · rcases h k (List.mem_range.1 hk) hi with h1 | h1
      · exact .inl (.inr h1)
      · exact .inr h1
    · exact .inl (.inl hi)
theorem endR_spec {C : List (List Nat)} {m i : Nat} : i ∈ endR C m ↔ i < m ∧ ∀ k, k < m → i ∉ C.getD k [] := by
  unfold endR
  rw [List.mem_filter, List.all_eq_true, List.mem_range]
  exact and_congr_right fun _ => ⟨fun h k hk => not_containsR.1 (h k (List.mem_range.2 hk)), fun h k hk => not_containsR.2 (h k (List.mem_range.1 hk))⟩
/-- What is to be shown of operation j. -/
def ObR (P : Program) (ops : Array Oper) (S : World → Prop) (R C : List (List Nat)) (Rel : World → World → Prop) (m : Nat) (V : (Nat → Value) → List VP) (x : Nat → Value) (a0 : Act) (j : Nat) : Prop :=
  ∀ w, S w → (∀ i ∈ availR R C m j, ((V x).getD i VAny).p (x i) w) →
    wpOp P ops NoWay j (fun a' w' => ∃ v, (∀ d, dstOf ops j = some d → a'.tmps[d]? = some v) ∧ a'.defers = a0.defers ∧ ((V x).getD j VAny).p v w' ∧ StepR C Rel j w w') (putS ops x a0 j) w
theorem tasks_goR {m : Nat} {Rel : World → World → Prop} {R C : List (List Nat)} {V : (Nat → Value) → List VP} {S : World → Prop} {a0 : Act} (hok : tasksOk ops m a0.tmps.size R = true)
    (hdep : ∀ x x' j, (∀ i ∈ R.getD j [], x i = x' i) → (V x).getD j VAny = (V x').getD j VAny) (hweak : ∀ i, i < m → (C.getD i []).isEmpty = false → ∀ k, k < m → k ≠ i → i ∉ R.getD k [] → k ∉ C.getD i [] → ∀ x v w w', ((V x).getD k VAny).p v w → Rel w w' → ((V x).getD k VAny).p v w') (hSt : ∀ j w w', S w → StepR C Rel j w w' → S w') (hob : ∀ x j, j < m → ObR P ops S R C Rel m V x a0 j)
    (hend : ∀ x w', S w' → (∀ i ∈ endR C m, ((V x).getD i VAny).p (x i) w') → wpAny P .any ops Q (ops.size - m) (listedTo ops.size m) (putS ops x a0 m) w') :
    ∀ (c : Nat) (U : List Nat) (listed : Array Bool) (w : World) (x : Nat → Value), U.length = c → U.Nodup → (∀ i, i ∈ U ↔ i < m ∧ listed.getD i false = false) → listed.size = ops.size →
      (∀ i, m ≤ i → i < ops.size → listed.getD i false = false) → (∀ (j : Nat) (o : Oper), ops[j]? = some o → listed.getD j false = true → ∀ e ∈ o.after, Region.binds .any e = true → listed.getD e.on false = true) →
      S w → (∀ i, i < m → listed.getD i false = true → (∀ j, j < m → i ∈ C.getD j [] → listed.getD j false = false) → ((V x).getD i VAny).p (x i) w) → wpAny P .any ops Q (ops.size - m + c) listed (putD ops (fun i => listed.getD i false) x a0 m) w := by
  obtain ⟨hmn, hspec, htail⟩ := tasks_spec hok
  have hsel : Region.noSelect ops = true := by unfold tasksOk at hok; simp only [Bool.and_eq_true] at hok; exact hok.1.1
  intro c
  induction c with
  | zero =>
    intro U listed w x hU hnd hmem hsz hun hcl hS hV
    obtain rfl : U = [] := List.eq_nil_of_length_eq_zero hU
    have hall : ∀ i, i < m → listed.getD i false = true := fun i hi => by
      cases h : listed.getD i false
      · exact absurd ((hmem i).2 ⟨hi, h⟩) (by simp)
      · rfl
    have hl : listed = listedTo ops.size m := by
      apply Array.ext
      · simp [listedTo, hsz]
      · intro i h1 h2
        have e : listed.getD i false = listed[i] := by simp [Array.getD, h1]
        by_cases hi : i < m
        · have := hall i hi
          rw [e] at this
          simp [listedTo, this, hi]
        · have := hun i (by omega) (by omega)
          rw [e] at this
          simp [listedTo, this, hi]
    rw [Nat.add_zero, putD_congr (ops := ops) _ (fun _ => true) x x a0 m (fun i hi => ⟨hall i hi, fun _ => rfl⟩), hl]
    exact hend x w hS (fun i hi => hV i (endR_spec.1 hi).1 (hall i (endR_spec.1 hi).1) (fun j hj hc => absurd hc ((endR_spec.1 hi).2 j hj)))
  | succ c ih =>
    intro U listed w x hU hnd hmem hsz hun hcl hS hV
    have hne : U ≠ [] := fun e => by rw [e] at hU; simp at hU
    show (_ → _) ∧ _
    refine ⟨fun hr => ?_, fun i hi => ?_⟩
    · exfalso
      obtain ⟨i, hiU, hmin⟩ := min_mem U hne
      obtain ⟨him, hil⟩ := (hmem i).1 hiU
      have hlt : i < ops.size := by omega
      have : i ∈ Region.ready .any ops listed := mem_ready.2 ⟨by simpa [Array.getD, hsz, hlt] using hil, _, Array.getElem?_eq_getElem hlt, fun e he hb => by
        have hlti := (hspec i _ (Array.getElem?_eq_getElem hlt) him).1 e he hb
        cases h : listed.getD e.on false
        · have := hmin e.on ((hmem _).2 ⟨by omega, h⟩); omega
        · rfl⟩
      rw [hr] at this
      cases this
    · obtain ⟨hil, o, ho, hdeps⟩ := mem_ready.1 hi
      have hlt : i < ops.size := (Array.getElem?_eq_some_iff.1 ho).1
      have hil' : listed.getD i false = false := by simpa [Array.getD, hsz, hlt] using hil
      have hreach := listed_reach hok (fun i => listed.getD i false) hcl i o ho hdeps
      have him : i < m := by
        rcases Nat.lt_or_ge i m with h | h
        · exact h
        · exfalso
          obtain ⟨k, hk⟩ := List.exists_mem_of_ne_nil U hne
          obtain ⟨hkm, hkl⟩ := (hmem k).1 hk
          have := hreach k (htail i hlt h k hkm)
          rw [hkl] at this; cases this
      obtain ⟨_, ⟨d, hd, hdsz, hduniq⟩, hlook⟩ := hspec i o ho him
      have hdst : dstOf ops i = some d := by simp [dstOf, ho, hd]
      have hso : ∀ cs b, o.op ≠ .select cs b := fun cs b => Region.noSelect_spec hsel i o cs b ho
      -- the two frames agree on what o looks at
      have hagree : ∀ t ∈ o.looksAt ops, (putD ops (fun i => listed.getD i false) x a0 m).tmps[t]? = (putS ops x a0 i).tmps[t]? := fun t ht => by
        by_cases hex : ∃ k, k < m ∧ dstOf ops k = some t
        · obtain ⟨k, hkm, hkd⟩ := hex
          have hkR := hlook t ht k hkm hkd
          have hki := reach_lt hok i hlt k hkR
          have hkl := hreach k hkR
          have hks : k < ops.size := by omega
          obtain ⟨_, ⟨d', hd', hdsz', hu'⟩, _⟩ := hspec k _ (Array.getElem?_eq_getElem hks) hkm
          have htd : d' = t := by
            have : dstOf ops k = some d' := by simp [dstOf, Array.getElem?_eq_getElem hks, hd']
            rw [hkd] at this; injection this with this; exact this.symm
          rw [putD_at _ _ _ _ k hkd hkl (htd ▸ hdsz') m hkm (fun l hl hlk => htd ▸ hu' l hl hlk)]
          unfold putS
          rw [putD_at _ _ _ _ k hkd rfl (htd ▸ hdsz') i hki (fun l hl hlk => htd ▸ hu' l (by omega) hlk)]
        · rw [putD_other _ _ _ _ m (fun k hk hkd => absurd ⟨k, hk, hkd⟩ hex)]
          unfold putS
          rw [putD_other _ _ _ _ i (fun k hk hkd => absurd ⟨k, by omega, hkd⟩ hex)]
      have hob' := hob x i him w hS (fun k hk => by
        obtain ⟨hkR, hkC⟩ := availR_spec.1 hk
        refine hV k (by have := reach_lt hok i hlt k hkR; omega) (hreach k hkR) (fun j hj hc => ?_)
        rcases hkC j hj hc with rfl | hij
        · exact hil'
        · cases hjl : listed.getD j false
          · rfl
          · have hjs : j < ops.size := by omega
            have := listed_reach hok (fun i => listed.getD i false) hcl j _ (Array.getElem?_eq_getElem hjs) (hcl j _ (Array.getElem?_eq_getElem hjs) hjl) i hij
            rw [hil'] at this; cases this)
      have hsz1 := putD_size (ops := ops) (fun _ => true) x a0 i
      -- what comes behind
      have next : ∀ v w', ((V x).getD i VAny).p v w' → StepR C Rel i w w' → wpAny P .any ops Q (ops.size - m + c) (listed.setIfInBounds i true) ((putD ops (fun i => listed.getD i false) x a0 m).put (some d) v) w' := fun v w' hv hb => by
        have hput := putD_put (ops := ops) (fun k => listed.getD k false) (fun k => (listed.setIfInBounds i true).getD k false) x (fun k => if k = i then v else x k) a0 i hil'
          (by simp [hsz, hlt]) (fun k hk => ⟨by rw [getD_set_ne _ (Ne.symm hk)], by simp [hk]⟩) m him
          (fun d' k hk hki hd' => by rw [hdst] at hd'; injection hd' with hd'; exact hd' ▸ hduniq k hk hki)
        simp only [if_true] at hput
        rw [← hdst, hput]
        refine ih (U.erase i) _ _ _ ?_ (hnd.erase _) (fun k => ?_) (by simpa using hsz) (fun k h1 h2 => ?_) (fun j oj hoj hj e he hb' => ?_) (hSt i _ _ hS hb) (fun k hk hkl hcons => ?_)
        · rw [List.length_erase_of_mem ((hmem i).2 ⟨him, hil'⟩), hU]; rfl
        · rw [hnd.mem_erase_iff, hmem]
          by_cases hk : k = i
          · subst hk; simp [hsz, hlt]
          · rw [getD_set_ne _ (Ne.symm hk)]; simp [hk]
        · rw [getD_set_ne _ (by omega)]; exact hun k h1 h2
        · by_cases hji : j = i
          · subst hji
            rw [ho] at hoj; injection hoj with hoj; subst hoj
            exact getD_set_true (hdeps e he hb')
          · rw [getD_set_ne _ (Ne.symm hji)] at hj
            exact getD_set_true (hcl j oj hoj hj e he hb')
        · by_cases hki : k = i
          · subst hki
            rw [hdep _ x k (fun l hl => by have := reach_lt hok k hlt l hl; simp only [show l ≠ k by omega, if_false])]
            simpa using hv
          · rw [getD_set_ne _ (Ne.symm hki)] at hkl
            have hks : k < ops.size := by omega
            have hdk : (V fun l => if l = i then v else x l).getD k VAny = (V x).getD k VAny := hdep _ x k (fun l hl => by
              have hll := listed_reach hok (fun i => listed.getD i false) hcl k _ (Array.getElem?_eq_getElem hks) (hcl k _ (Array.getElem?_eq_getElem hks) hkl) l hl
              have hne : l ≠ i := fun e => by rw [e] at hll; rw [hil'] at hll; cases hll
              simp only [hne, if_false])
            simp only [hki, if_false]
            rw [hdk]
            have hb0 : ∀ j, j < m → k ∈ C.getD j [] → listed.getD j false = false := fun j hj hc => by
              have h1 := hcons j hj hc
              by_cases hji : j = i
              · rw [hji]; exact hil'
              · rwa [getD_set_ne _ (Ne.symm hji)] at h1
            have hkC : k ∉ C.getD i [] := fun hc => by
              have h1 := hcons i him hc
              simp [hsz, hlt] at h1
            have hiR : i ∉ R.getD k [] := fun hik => by
              have := listed_reach hok (fun i => listed.getD i false) hcl k _ (Array.getElem?_eq_getElem hks) (hcl k _ (Array.getElem?_eq_getElem hks) hkl) i hik
              rw [hil'] at this; cases this
            cases he : (C.getD i []).isEmpty
            · replace hb : Rel w w' := by unfold StepR at hb; rw [he] at hb; exact hb
              exact hweak i him he k hk hki hiR hkC x _ _ _ (hV k hk hkl hb0) hb
            · replace hb : Below w.heap.size w w' := by unfold StepR at hb; rw [he] at hb; exact hb
              exact ((V x).getD k VAny).st _ _ _ (hV k hk hkl hb0) hb
      unfold wpOp at hob' ⊢
      simp only [ho] at hob' ⊢
      rw [wanted_same hagree]
      split
      · rename_i hw
        rw [if_pos hw] at hob'
        rcases hob' with h | ⟨_, h⟩
        case inr => exact absurd h NoWay.lets
        refine .inl (Oper.wp_mono ?_ (wp_move (Q := Q) (d := d) (R := fun v w' => ((V x).getD i VAny).p v w' ∧ StepR C Rel i w w') (exec_same hso hagree) hd (by unfold putS; rw [hsz1.1]; exact hdsz)
          (Oper.wp_mono (fun a' w' ⟨v, h1, h2, h3, h4⟩ => ⟨v, h1 d hdst, by unfold putS; rw [hsz1.2]; exact h2, h3, h4⟩) h)))
        rintro a' w' ⟨v, rfl, hv, hb⟩
        exact next v w' hv hb
      · rename_i hw
        rw [if_neg hw] at hob'
        obtain ⟨v, h1, _, h3, h4⟩ := hob'
        have hvu : v = undef := by
          have := h1 d hdst
          rw [hd] at this
          simp [Act.put, putS, hsz1.1, hdsz] at this
          exact this.symm
        rw [hd]
        exact next undef w (hvu ▸ h3) h4
/-- **A region that draws its order**: each of its first m operations is shown once; what is left behind them goes on. -/
theorem wp_tasksR {id m : Nat} {Rel : World → World → Prop} (R C : List (List Nat)) (V : (Nat → Value) → List VP) (S : World → Prop) {a0 : Act} {w : World} (hm : P.follows .mixedOrders = true) (hok : tasksOk ops m a0.tmps.size R = true)
    (hdep : ∀ x x' j, (∀ i ∈ R.getD j [], x i = x' i) → (V x).getD j VAny = (V x').getD j VAny) (hweak : ∀ i, i < m → (C.getD i []).isEmpty = false → ∀ k, k < m → k ≠ i → i ∉ R.getD k [] → k ∉ C.getD i [] → ∀ x v w w', ((V x).getD k VAny).p v w → Rel w w' → ((V x).getD k VAny).p v w') (hS0 : S w.drew) (hSt : ∀ j w w', S w → StepR C Rel j w w' → S w') (hob : ∀ x j, j < m → ObR P ops S R C Rel m V x a0 j)
    (hend : ∀ x w', S w' → (∀ i ∈ endR C m, ((V x).getD i VAny).p (x i) w') → wpAny P .any ops Q (ops.size - m) (listedTo ops.size m) (putS ops x a0 m) w') : (Code.region id ops true).wp P Q a0 w := by
  have hmn := (tasks_spec hok).1
  have hf : ∀ i, (Array.replicate ops.size false).getD i false = false := fun i => by simp [Array.getD]
  have h := tasks_goR (Q := Q) hok hdep hweak hSt hob hend m (List.range m) (Array.replicate ops.size false) w.drew (fun _ => undef) (by simp) List.nodup_range (fun i => by rw [hf]; simp) (by simp) (fun i _ _ => hf i) (fun j o _ hj => by rw [hf] at hj; cases hj) hS0
    (fun i _ hi => by rw [hf] at hi; cases hi)
  refine wp_region_any hm ?_
  rw [show ops.size - m + m = ops.size by omega, putD_congr (ops := ops) _ (fun _ => false) _ (fun _ => undef) a0 m (fun i _ => ⟨hf i, fun _ => rfl⟩)] at h
  have e : ∀ n, putD ops (fun _ => false) (fun _ => undef) a0 n = a0 := fun n => by
    induction n with
    | zero => rfl
    | succ n ih => unfold putD; simpa using ih
  rw [e] at h
  exact h
/-- What is to be shown, operation by operation, in the text's order; the frame goes along. -/
def ObsR (P : Program) (ops : Array Oper) (Q : Exit → Act → World → Prop) (S : World → Prop) (R C : List (List Nat)) (Rel : World → World → Prop) (m : Nat) (V : (Nat → Value) → List VP) (x : Nat → Value) : Nat → Nat → Act → Prop
  | 0, j, a => ∀ w, S w → (∀ i ∈ endR C m, ((V x).getD i VAny).p (x i) w) → wpAny P .any ops Q (ops.size - j) (listedTo ops.size j) a w
  | r + 1, j, a => (∀ w, S w → (∀ i ∈ availR R C m j, ((V x).getD i VAny).p (x i) w) →
      wpOp P ops NoWay j (fun a' w' => ∃ v, (∀ d, dstOf ops j = some d → a'.tmps[d]? = some v) ∧ a'.defers = a.defers ∧ ((V x).getD j VAny).p v w' ∧ StepR C Rel j w w') a w) ∧
    ObsR P ops Q S R C Rel m V x r (j + 1) (a.put (dstOf ops j) (x j))
theorem obs_allR {S : World → Prop} {R C : List (List Nat)} {Rel : World → World → Prop} {m : Nat} {V : (Nat → Value) → List VP} {x : Nat → Value} {a0 : Act} : ∀ (r j : Nat), ObsR P ops Q S R C Rel m V x r j (putS ops x a0 j) →
    (∀ k, j ≤ k → k < j + r → ObR P ops S R C Rel m V x a0 k) ∧ ∀ w, S w → (∀ i ∈ endR C m, ((V x).getD i VAny).p (x i) w) → wpAny P .any ops Q (ops.size - (j + r)) (listedTo ops.size (j + r)) (putS ops x a0 (j + r)) w := by
  intro r
  induction r with
  | zero => intro j h; exact ⟨fun k h1 h2 => by omega, h⟩
  | succ r ih =>
    intro j h
    obtain ⟨h1, h2⟩ := h
    have h2' : ObsR P ops Q S R C Rel m V x r (j + 1) (putS ops x a0 (j + 1)) := h2
    obtain ⟨h3, h4⟩ := ih (j + 1) h2'
    refine ⟨fun k hk1 hk2 => ?_, by rw [show j + (r + 1) = j + 1 + r by omega]; exact h4⟩
    by_cases hk : k = j
    · subst hk
      intro w hS hV
      have h := h1 w hS hV
      rw [show (putS ops x a0 k).defers = a0.defers from (putD_size _ _ _ _).2] at h
      exact h
    · exact h3 k (by omega) (by omega)
theorem wp_obsR {id : Nat} (m : Nat) (Rel : World → World → Prop) (R C : List (List Nat)) (V : (Nat → Value) → List VP) (S : World → Prop) {a0 : Act} {w : World} (hm : P.follows .mixedOrders = true) (hok : tasksOk ops m a0.tmps.size R = true)
    (hdep : ∀ x x' j, (∀ i ∈ R.getD j [], x i = x' i) → (V x).getD j VAny = (V x').getD j VAny) (hweak : ∀ i, i < m → (C.getD i []).isEmpty = false → ∀ k, k < m → k ≠ i → i ∉ R.getD k [] → k ∉ C.getD i [] → ∀ x v w w', ((V x).getD k VAny).p v w → Rel w w' → ((V x).getD k VAny).p v w') (hSt : ∀ j w w', S w → StepR C Rel j w w' → S w') (hS0 : S w.drew) (h : ∀ x, ObsR P ops Q S R C Rel m V x m 0 a0) : (Code.region id ops true).wp P Q a0 w :=
  wp_tasksR (m := m) (Rel := Rel) R C V S hm hok hdep hweak hS0 hSt (fun x j hj => (obs_allR m 0 (h x)).1 j (by omega) (by omega)) (fun x w' hS hV => by
    have := (obs_allR m 0 (h x)).2 w' hS (hV)
    rwa [Nat.zero_add] at this)
theorem obs_stepR {S : World → Prop} {R C : List (List Nat)} {Rel : World → World → Prop} {m : Nat} {V : (Nat → Value) → List VP} {x : Nat → Value} {r j : Nat} {a : Act} {o : Oper} {d : Tmp} (ho : ops[j]? = some o) (hd : o.dst = some d)
    (h : ∀ w, S w → (∀ i ∈ availR R C m j, ((V x).getD i VAny).p (x i) w) → ∀ K : Act → World → Prop, Shut (∀ a' w' v, a'.tmps[d]? = some v → a'.defers = a.defers → ((V x).getD j VAny).p v w' → StepR C Rel j w w' → K a' w') →
      if Region.wanted o (yielded ops a.tmps) = true then Oper.wp P o a w K NoWay else K (a.put o.dst undef) w)
    (hr : ObsR P ops Q S R C Rel m V x r (j + 1) { a with tmps := a.tmps.setIfInBounds d (x j) }) : ObsR P ops Q S R C Rel m V x (r + 1) j a := by
  have hdst : dstOf ops j = some d := by simp [dstOf, ho, hd]
  refine ⟨fun w hS hV => wpOp_step ho (fun K hK => ?_), by rw [hdst]; exact hr⟩
  exact h w hS hV K (fun a' w' v h1 h2 h3 h4 => hK a' w' ⟨v, fun d' hd' => by rw [hdst] at hd'; injection hd' with hd'; exact hd' ▸ h1, h2, h3, h4⟩)
/-- Those that bear an append in place: their values are plain. -/
theorem weak_ofR {m : Nat} {Rel : World → World → Prop} {R C : List (List Nat)} {V : (Nat → Value) → List VP} (Wk : List Nat)
    (hchk : ((List.range m).all fun i => (C.getD i []).isEmpty || (List.range m).all fun k => k == i || (R.getD k []).contains i || (C.getD i []).contains k || Wk.contains k) = true)
    (hW : ∀ k ∈ Wk, ∀ x v w w', ((V x).getD k VAny).p v w → Rel w w' → ((V x).getD k VAny).p v w') :
    ∀ i, i < m → (C.getD i []).isEmpty = false → ∀ k, k < m → k ≠ i → i ∉ R.getD k [] → k ∉ C.getD i [] → ∀ x v w w', ((V x).getD k VAny).p v w → Rel w w' → ((V x).getD k VAny).p v w' := by
  intro i hi he k hk hne hR hC x v w w' hp hrel
  have h1 := List.all_eq_true.1 hchk i (List.mem_range.2 hi)
  rw [he, Bool.false_or] at h1
  have h2 := List.all_eq_true.1 h1 k (List.mem_range.2 hk)
  rw [Bool.or_eq_true, Bool.or_eq_true, Bool.or_eq_true, beq_iff_eq, List.contains_iff_mem, List.contains_iff_mem, List.contains_iff_mem] at h2
  rcases h2 with ((h2 | h2) | h2) | h2
  · exact absurd h2 hne
  · exact absurd h2 hR
  · exact absurd h2 hC
  · exact hW k h2 x v w w' hp hrel
end
end Go.Proofs.YtdbibmilicjllaaGreat

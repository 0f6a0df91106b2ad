/-
  LawFnDecompositions: part 7 of the texts that the proof needs. No condition.
-/
import Derived.Test.YtdbibmilicjllaaGreatQ6
namespace Go.Proofs.YtdbibmilicjllaaGreat
section
variable {p : Int} {n : Nat}
theorem Cl.sm_cancel (hP : isP p = true) {sq : List Int} {x : Int} (hx : x % p ≠ 0) {a b : Cl p sq} (h : x * a = x * b) : a = b := by
  have h1 := Cl.sm_inv hP hx (rfl : x * a = x * a)
  have h2 := Cl.sm_inv hP hx (rfl : x * b = x * b)
  rw [h1, h2, h]
theorem Cl.prod_dclr (hp : 0 < p) (hP : isP p = true) {m : List (List Int)} (hT : Tab p n m) {i : Nat} (hi : i < m.length) : ∀ k, i + 1 + k ≤ m.length → (Cl.prod hp (dClr p m i (i + 1 + k)) : Cl p (zs n)) = Cl.prod hp m := by
  intro k
  induction k with
  | zero => intro _; rw [Nat.add_zero, dClr_start]
  | succ k ih =>
    intro hk
    rw [← Nat.add_assoc, dClr_succ (by omega) (by omega)]
    have e1 : m.getD (i + 1 + k) [] = (dClr p m i (i + 1 + k)).getD (i + 1 + k) [] := by rw [dClr_getD (by omega), if_neg (by omega)]
    have e2 : m.getD i [] = (dClr p m i (i + 1 + k)).getD i [] := by rw [dClr_getD hi, if_neg (by omega)]
    unfold dRow
    rw [e1, e2, Cl.prod_plus hp hP (dClr_tab hp hT i _) (by rw [dClr_len]; omega) (by rw [dClr_len]; exact hi) (by omega)]
    exact ih (by omega)
def diagP (m : List (List Int)) : Nat → Int
  | 0 => 1
  | k + 1 => diagP m k * ent m k k
theorem diagP_congr {m m' : List (List Int)} : ∀ k, (∀ r, r < k → ent m r r = ent m' r r) → diagP m k = diagP m' k := by
  intro k
  induction k with
  | zero => intro _; rfl
  | succ k ih => intro h; show diagP m k * ent m k k = diagP m' k * ent m' k k; rw [ih fun r hr => h r (by omega), h k (by omega)]
/-- Zeros below the diagonal in the first i columns. -/
def Upr (m : List (List Int)) (i : Nat) : Prop := ∀ r c, c < i → c < r → r < m.length → ent m r c = 0
theorem tri_row (hp : 0 < p) (hP : isP p = true) {m : List (List Int)} (hT : Tab p n m) (hl : m.length = n) (hU : Upr m n) {k : Nat} (hk : k < n) :
    (Cl.vec hp (m.getD k []) : Cl p (zs n)) * Cl.prod hp ((unitM n).drop (k + 1)) = ent m k k * (Cl.vec hp (unitRow n k) * Cl.prod hp ((unitM n).drop (k + 1))) := by
  have h3 := isP_ge hP
  obtain ⟨v, hv⟩ : ∃ v, v = plusL p (m.getD k []) (unitRow n k) (-(ent m k k)) := ⟨_, rfl⟩
  have hml := (hT.row (show k < m.length by omega)).1
  have hlen : ((unitM n).drop (k + 1)).length = n - (k + 1) := by rw [List.length_drop, unitM_len]
  have hentd : ∀ i, i < n - (k + 1) → ∀ q, q < n → ent ((unitM n).drop (k + 1)) i q = if k + 1 + i = q then 1 else 0 := fun i hi q hq => by
    have e : ((unitM n).drop (k + 1)).getD i [] = (unitM n).getD (k + 1 + i) [] := by
      rw [List.getD_eq_getElem?_getD, List.getD_eq_getElem?_getD, List.getElem?_drop]
    unfold ent
    rw [e, unitM_getD (by omega), unitRow_getD hq]
  have hvq : ∀ q, q < n → v.getD q 0 % p = (if q ≤ k then 0 else ent m k q) % p := fun q hq => by
    rw [hv, plusL_getD _ _ (by omega), unitRow_getD hq, cg_self]
    congr 1
    show ent m k q + _ = _
    by_cases h1 : q = k
    · subst h1; rw [if_pos rfl, if_pos (Nat.le_refl _)]; omega
    · rw [if_neg fun e => h1 e.symm]
      by_cases h2 : q ≤ k
      · rw [if_pos h2, hU k q (by omega) (by omega) (by omega)]; omega
      · rw [if_neg h2]; omega
  have hsp : Sp p n ((unitM n).drop (k + 1)) fun q => v.getD q 0 := by
    refine ⟨fun i => ent m k (k + 1 + i), fun q hq => ?_⟩
    show v.getD q 0 % p = _
    rw [hvq q hq, hlen]
    by_cases h : q ≤ k
    · rw [if_pos h, sumTo_zero fun i hi => ?_]
      rw [hentd i hi q hq, if_neg (by omega), Int.mul_zero]
    · rw [if_neg h, sumTo_one (q - (k + 1)) (by omega) fun i hi hne => ?_]
      · rw [hentd _ (by omega) q hq, if_pos (by omega), Int.mul_one]
        show ent m k q % p = ent m k (k + 1 + (q - (k + 1))) % p
        rw [show k + 1 + (q - (k + 1)) = q by omega]
      · rw [hentd i hi q hq, if_neg (by omega), Int.mul_zero]
  have hz := Cl.span_prod hp hP (v := v) hsp
  rw [hv, Cl.vec_plus hp (hml.trans (zs_len n).symm), Cl.add_mul, Cl.sm_mul] at hz
  have h9 := Cl.move hz
  rw [Int.neg_neg, Cl.zero_addz] at h9
  exact h9
def sfxP (m : List (List Int)) (n : Nat) : Nat → Int
  | 0 => 1
  | j + 1 => ent m (n - (j + 1)) (n - (j + 1)) * sfxP m n j
theorem sfx_diag (m : List (List Int)) (n : Nat) : ∀ j, j ≤ n → diagP m (n - j) * sfxP m n j = diagP m n := by
  intro j
  induction j with
  | zero => intro _; show diagP m n * 1 = _; rw [Int.mul_one]
  | succ j ih =>
    intro hj
    rw [← ih (by omega)]
    have e : n - j = (n - (j + 1)) + 1 := by omega
    rw [e]
    show _ * (_ * sfxP m n j) = diagP m (n - (j + 1)) * ent m (n - (j + 1)) (n - (j + 1)) * sfxP m n j
    rw [Int.mul_assoc]
theorem tri_prod (hp : 0 < p) (hP : isP p = true) {m : List (List Int)} (hT : Tab p n m) (hl : m.length = n) (hU : Upr m n) : (Cl.prod hp m : Cl p (zs n)) = diagP m n * Cl.prod hp (unitM n) := by
  have key : ∀ j, j ≤ n → (Cl.prod hp (m.drop (n - j)) : Cl p (zs n)) = sfxP m n j * Cl.prod hp ((unitM n).drop (n - j)) := by
    intro j
    induction j with
    | zero =>
      intro _
      rw [Nat.sub_zero, List.drop_eq_nil_of_le (by omega), List.drop_eq_nil_of_le (by rw [unitM_len]; omega)]
      rw [show sfxP m n 0 = 1 from rfl, Cl.one_sm]
    | succ j ih =>
      intro hj
      have hk : n - (j + 1) < n := by omega
      have e : n - j = (n - (j + 1)) + 1 := by omega
      have h1 := ih (by omega)
      rw [e] at h1
      have d1 : m.drop (n - (j + 1)) = m.getD (n - (j + 1)) [] :: m.drop (n - (j + 1) + 1) := by
        rw [List.drop_eq_getElem_cons (by omega), getD_of_lt [] (by omega)]
      have d2 : (unitM n).drop (n - (j + 1)) = unitRow n (n - (j + 1)) :: (unitM n).drop (n - (j + 1) + 1) := by
        rw [List.drop_eq_getElem_cons (by rw [unitM_len]; omega), unitM_get]
      rw [d1, d2, Cl.prod_cons, Cl.prod_cons, h1, Cl.mul_sm, tri_row hp hP hT hl hU hk, Cl.sm_sm]
      rw [show sfxP m n (j + 1) = ent m (n - (j + 1)) (n - (j + 1)) * sfxP m n j from rfl, Int.mul_comm (sfxP m n j)]
  have h := key n (Nat.le_refl _)
  rw [Nat.sub_self, List.drop_zero, List.drop_zero] at h
  have h2 := sfx_diag m n n (Nat.le_refl _)
  rw [Nat.sub_self] at h2
  have h3 : diagP m 0 = 1 := rfl
  rw [h3, Int.one_mul] at h2
  rw [h, h2]
/-- No number other than 0 in column i from row i on: the product is 0. -/
theorem no_pivot (hp : 0 < p) (hP : isP p = true) {m : List (List Int)} (hT : Tab p n m) (hl : m.length = n) {i : Nat} (hi : i < n) (hU : Upr m i) (h0 : ∀ r, i ≤ r → r < n → ent m r i = 0) : (Cl.prod hp m : Cl p (zs n)) = Cl.zero hp := by
  have hd : (Cl.prod hp (m.drop i) : Cl p (zs n)) = Cl.zero hp := by
    have hTd : Tab p n (m.drop i) := fun x hx => hT x (List.mem_of_mem_drop hx)
    rcases Cl.prod_basis hp hP hTd with h | ⟨h1, -⟩
    · exact h
    · exfalso
      have hR := basisL_red hP _ hTd
      have hin : InSp p n (m.drop i) ((unitM n).drop (i + 1)) := fun r hr => by
        rw [List.length_drop, hl] at hr
        have er : ∀ q, ent (m.drop i) r q = ent m (i + r) q := fun q => by
          have e : (m.drop i).getD r [] = m.getD (i + r) [] := by rw [List.getD_eq_getElem?_getD, List.getD_eq_getElem?_getD, List.getElem?_drop]
          unfold ent
          rw [e]
        have eu : ∀ t, t < n - (i + 1) → ∀ q, q < n → ent ((unitM n).drop (i + 1)) t q = if i + 1 + t = q then 1 else 0 := fun t ht q hq => by
          have e : ((unitM n).drop (i + 1)).getD t [] = (unitM n).getD (i + 1 + t) [] := by
            rw [List.getD_eq_getElem?_getD, List.getD_eq_getElem?_getD, List.getElem?_drop]
          unfold ent
          rw [e, unitM_getD (by omega), unitRow_getD hq]
        have hlen : ((unitM n).drop (i + 1)).length = n - (i + 1) := by rw [List.length_drop, unitM_len]
        refine ⟨fun t => ent m (i + r) (i + 1 + t), fun q hq => ?_⟩
        show ent (m.drop i) r q % p = _
        rw [er q, hlen]
        by_cases h : q ≤ i
        · have hz : ent m (i + r) q = 0 := by
            by_cases h2 : q = i
            · rw [h2]; exact h0 _ (by omega) (by omega)
            · exact hU _ _ (by omega) (by omega) (by omega)
          rw [hz, sumTo_zero fun t ht => ?_]
          rw [eu t ht q hq, if_neg (by omega), Int.mul_zero]
        · rw [sumTo_one (q - (i + 1)) (by omega) fun t ht hne => ?_]
          · rw [eu _ (by omega) q hq, if_pos (by omega), Int.mul_one]
            show ent m (i + r) q % p = ent m (i + r) (i + 1 + (q - (i + 1))) % p
            rw [show i + 1 + (q - (i + 1)) = q by omega]
          · rw [eu t ht q hq, if_neg (by omega), Int.mul_zero]
      have hle := (Red.ind (p := p) hR).le hP (M := (unitM n).drop (i + 1)) ((basisL_in hP _ hTd).1.trans hin)
      rw [h1, List.length_drop, List.length_drop, unitM_len, hl] at hle
      omega
  rw [← List.take_append_drop i m, Cl.prod_append, hd, Cl.mul_zero]
theorem piv_none {m : List (List Int)} {k : Nat} : ∀ (f d : Nat), piv m k f d = d + f → ∀ r, d ≤ r → r < d + f → ent m r k = 0 := by
  intro f
  induction f with
  | zero => intro d _ r h1 h2; omega
  | succ f ih =>
    intro d h r h1 h2
    have e : piv m k (f + 1) d = if ent m d k = 0 then piv m k f (d + 1) else d := rfl
    rw [e] at h
    by_cases h3 : ent m d k = 0
    · rw [if_pos h3] at h
      by_cases h4 : r = d
      · rw [h4]; exact h3
      · exact ih (d + 1) (by omega) r (by omega) (by omega)
    · rw [if_neg h3] at h; omega
theorem det_go (hp : 0 < p) (hP : isP p = true) : ∀ (f : Nat) (m : List (List Int)) (i : Nat) (out : Int), i + f = n → Tab p n m → m.length = n → Upr m i →
    out * (Cl.prod hp m : Cl p (zs n)) = (diagP m i * detF p f m i out) * Cl.prod hp (unitM n) := by
  have h3 := isP_ge hP
  intro f
  induction f with
  | zero =>
    intro m i out hi hT hl hU
    obtain rfl : i = n := by omega
    rw [show detF p 0 m i out = out from rfl, tri_prod hp hP hT hl hU, Cl.sm_sm, Int.mul_comm]
  | succ f ih =>
    intro m i out hi hT hl hU
    have hin : i < n := by omega
    obtain ⟨hb1, hb2⟩ := pivOf_bound m i i (by omega)
    by_cases hv : pivOf m i i = m.length
    · rw [detF_none hv, no_pivot hp hP hT hl hin hU (fun r h1 h2 => piv_none (m.length - i) i (by unfold pivOf at hv; omega) r h1 (by omega)), Cl.sm_zero, Int.mul_zero, Cl.zero_sm]
    · rw [detF_step hv]
      obtain ⟨k, hk⟩ : ∃ k, k = pivOf m i i := ⟨_, rfl⟩
      have hx0 : ent m k i ≠ 0 := by rw [hk]; exact piv_at m i _ _ (by unfold pivOf at hv hb2; omega)
      rw [← hk] at hb1 hb2 hv ⊢
      have hkl : k < m.length := by omega
      have hil : i < m.length := by omega
      obtain ⟨m1, hm1⟩ : ∃ m1, m1 = swapL m i k := ⟨_, rfl⟩
      have hT1 : Tab p n m1 := by rw [hm1]; exact swapL_tab hT hil hkl
      have hl1 : m1.length = n := by rw [hm1, swapL_len, hl]
      have hpr1 : (Cl.prod hp m1 : Cl p (zs n)) = swSg i k * Cl.prod hp m := by rw [hm1]; exact Cl.prod_swap' hp hP hT hil hkl
      have hent : ∀ r q, ent m1 r q = if r = k then ent m i q else if r = i then ent m k q else ent m r q := fun r q => by rw [hm1]; exact ent_swap hil hkl r q
      rw [← hm1]
      have hx1 : ent m1 i i = ent m k i := by
        rw [hent]
        by_cases e : i = k
        · rw [if_pos e, e]
        · rw [if_neg e, if_pos rfl]
      obtain ⟨x, hx⟩ : ∃ x, x = ent m k i := ⟨_, rfl⟩
      have hxb := hT.ent hp k i
      rw [← hx] at hx0 hx1 hxb
      rw [hx1, hl]
      have hxn : x % p ≠ 0 := by rw [Int.emod_eq_of_lt hxb.1 hxb.2]; exact hx0
      have hpr2 : (Cl.prod hp (dClr p m1 i n) : Cl p (zs n)) = Cl.prod hp m1 := by
        have := Cl.prod_dclr hp hP hT1 (i := i) (by omega) (n - (i + 1)) (by omega)
        rwa [show i + 1 + (n - (i + 1)) = n by omega] at this
      have hU1 : ∀ r c, c < i → c < r → r < n → ent m1 r c = 0 := fun r c h1 h2 h4 => by
        rw [hent]
        split
        · exact hU i c h1 h1 hil
        · split
          · exact hU k c h1 (by omega) hkl
          · exact hU r c h1 h2 (by omega)
      have hrow : ∀ r c, r ≤ i → ent (dClr p m1 i n) r c = ent m1 r c := fun r c hr => by
        unfold ent; rw [dClr_getD (by omega), if_neg (by omega)]
      have hU2 : Upr (dClr p m1 i n) (i + 1) := fun r c h1 h2 h4 => by
        rw [dClr_len, hl1] at h4
        by_cases hri : r ≤ i
        · rw [hrow r c hri]; exact hU1 r c (by omega) h2 h4
        · have e : (dClr p m1 i n).getD r [] = dRow p m1 i r := by rw [dClr_getD (by omega), if_pos ⟨by omega, h4⟩]
          unfold ent
          rw [e]
          unfold dRow
          rw [plusL_getD _ _ (by rw [(hT1.row (by omega)).1]; omega)]
          show (ent m1 r c + -(ent m1 r i) * invF p (ent m1 i i) * ent m1 i c) % p = 0
          by_cases hc : c = i
          · subst hc
            rw [hx1]
            have hi9 := inv_one hP hxb hx0
            obtain ⟨t, ht⟩ := cg_wit.1 hi9
            obtain ⟨y, hy⟩ : ∃ y, y = ent m1 r c := ⟨_, rfl⟩
            rw [← hy]
            exact (cg_wit.2 ⟨-(y * t), by
              have e2 : y + -y * invF p x * x = y - y * (x * invF p x) := by grind
              rw [e2, ht]; grind⟩).trans (Int.zero_emod p)
          · rw [hU1 r c (by omega) h2 h4, hU1 i c (by omega) (by omega) hin]
            simp
      have hIH := ih (dClr p m1 i n) (i + 1) ((if k = i then out else (-out) % p) * x % p) (by omega) (dClr_tab hp hT1 _ _) (by rw [dClr_len, hl1]) hU2
      have hdg : diagP (dClr p m1 i n) (i + 1) = diagP m i * x := by
        show diagP (dClr p m1 i n) i * ent (dClr p m1 i n) i i = _
        rw [hrow i i (Nat.le_refl _), hx1, diagP_congr (m' := m) i fun r hr => by rw [hrow r r (by omega), hent, if_neg (by omega), if_neg (by omega)]]
      rw [hdg, hpr2, hpr1, Cl.sm_sm] at hIH
      obtain ⟨D, hD⟩ : ∃ D, D = detF p f (dClr p m1 i n) (i + 1) ((if k = i then out else (-out) % p) * x % p) := ⟨_, rfl⟩
      rw [← hD] at hIH ⊢
      have hsg : ((if k = i then out else (-out) % p) * x % p * swSg i k) % p = (x * out) % p := by
        refine (cg_mul (cg_self _ _) rfl).trans ?_
        unfold swSg
        by_cases e : k = i
        · rw [if_pos e, if_pos e.symm, Int.mul_one, Int.mul_comm]
        · rw [if_neg e, if_neg fun h => e h.symm]
          refine (cg_mul (cg_mul (cg_self (a := -out) _) rfl) rfl).trans ?_
          congr 1; grind
      rw [Cl.sm_cg hsg] at hIH
      refine Cl.sm_cancel hP hxn ?_
      rw [Cl.sm_sm, hIH, Cl.sm_sm]
      congr 1
      grind
/-- The outer product of the rows. -/
theorem prod_det (hp : 0 < p) (hP : isP p = true) {m : List (List Int)} (hT : Tab p n m) (hl : m.length = n) : (Cl.prod hp m : Cl p (zs n)) = detL p m * Cl.prod hp (unitM n) := by
  have h := det_go hp hP n m 0 1 (by omega) hT hl (fun r c h => by omega)
  rw [Cl.one_sm] at h
  rw [h]
  unfold detL
  rw [hl]
  rw [show diagP m 0 = 1 from rfl, Int.one_mul]
end
end Go.Proofs.YtdbibmilicjllaaGreat
namespace Go.Proofs.YtdbibmilicjllaaGreat
theorem Ind.snoc' {p : Int} {n : Nat} (hP : isP p = true) {B : List (List Int)} {v : List Int} (hI : Ind p n B) (h : ¬ Sp p n B (fun q => v.getD q 0)) : Ind p n (B ++ [v]) := fun c hc => by
  have hsum : ∀ q, q < n → (sumTo B.length (fun i => c i * ent B i q) + c B.length * v.getD q 0) % p = 0 := fun q hq => by
    have h1 := hc q hq
    rw [List.length_append, List.length_singleton, sumTo_succ] at h1
    refine Eq.trans ?_ h1
    congr 1
    congr 1
    · refine sumTo_congr fun i hi => ?_
      unfold ent; rw [getD_app_left [] _ hi]
    · unfold ent
      have e9 : (B ++ [v]).getD B.length [] = v := by
        rw [List.getD_eq_getElem?_getD, List.getElem?_append_right (Nat.le_refl _)]
        simp
      rw [e9]
  have h0 : c B.length % p = 0 := Classical.byContradiction fun hne => h (by
    refine ⟨fun i => -(invF p (c B.length % p)) * c i, fun q hq => ?_⟩
    have hi := inv_mod hP hne
    obtain ⟨t, ht⟩ := cg_wit.1 ((hsum q hq).trans (Int.zero_emod p).symm)
    have h3 := isP_ge hP
    obtain ⟨s, hs⟩ := cg_wit.1 (hi.trans (Int.emod_eq_of_lt (a := 1) (by omega) (by omega)).symm)
    have e1 : (sumTo B.length fun i => -(invF p (c B.length % p)) * c i * ent B i q) = -(invF p (c B.length % p)) * sumTo B.length (fun i => c i * ent B i q) := by
      rw [← sumTo_mul]
      exact sumTo_congr fun i _ => Int.mul_assoc _ _ _
    rw [e1]
    obtain ⟨S, hS⟩ : ∃ S, S = sumTo B.length (fun i => c i * ent B i q) := ⟨_, rfl⟩
    obtain ⟨I, hI⟩ : ∃ I, I = invF p (c B.length % p) := ⟨_, rfl⟩
    obtain ⟨C, hC⟩ : ∃ C, C = c B.length := ⟨_, rfl⟩
    obtain ⟨V, hV⟩ : ∃ V, V = v.getD q 0 := ⟨_, rfl⟩
    rw [← hI, ← hC] at hs
    rw [← hS, ← hC, ← hV] at ht
    show v.getD q 0 % p = _
    rw [← hV, ← hI, ← hS]
    refine cg_wit.2 ⟨I * t - s * V, ?_⟩
    have e2 : S = p * t - C * V := by omega
    rw [e2]
    clear e1 e2 ht hi hsum hc
    grind)
  have h1 : ∀ i, i < B.length → c i % p = 0 := hI c fun q hq => by
    have h2 := hsum q hq
    obtain ⟨t, ht⟩ := cg_wit.1 (h0.trans (Int.zero_emod p).symm)
    rw [ht] at h2
    obtain ⟨S, hS⟩ : ∃ S, S = sumTo B.length (fun i => c i * ent B i q) := ⟨_, rfl⟩
    rw [← hS] at h2 ⊢
    obtain ⟨s, hs⟩ := cg_wit.1 (h2.trans (Int.zero_emod p).symm)
    exact (cg_wit.2 ⟨s - t * v.getD q 0, by grind⟩).trans (Int.zero_emod p)
  intro i hi
  rw [List.length_append, List.length_singleton] at hi
  rcases Nat.lt_or_ge i B.length with h2 | h2
  · exact h1 i h2
  · obtain rfl : i = B.length := by omega
    exact h0
section
variable {p : Int} {n : Nat}
/-- An alternating function of as many rows as columns. -/
structure Alt (hp : 0 < p) (F : List (List Int) → Cl p (zs n)) : Prop where
  swap : ∀ m, Tab p n m → m.length = n → ∀ i j, i < n → j < n → F (swapL m i j) = swSg i j * F m
  plus : ∀ m, Tab p n m → m.length = n → ∀ j d k, j < n → d < n → j ≠ d → F (m.set j (plusL p (m.getD j []) (m.getD d []) k)) = F m
  scale : ∀ m, Tab p n m → m.length = n → ∀ j k, j < n → F (m.set j (scaleL p (m.getD j []) k)) = k * F m
  zero : ∀ m, Tab p n m → m.length = n → ∀ r, r < n → (∀ q, q < n → ent m r q = 0) → F m = Cl.zero hp
theorem Alt.prod (hp : 0 < p) (hP : isP p = true) : Alt (n := n) hp (fun m => Cl.prod hp m) where
  swap := fun m hT hl i j hi hj => Cl.prod_swap' hp hP hT (by omega) (by omega)
  plus := fun m hT hl j d k hj hd hjd => Cl.prod_plus hp hP hT (by omega) (by omega) hjd k
  scale := fun m hT hl j k hj => by
    show (Cl.prod hp _ : Cl p (zs n)) = _
    rw [Cl.set_scale hp m (by omega) ((hT.row (by omega)).1.trans (zs_len n).symm), set_self m (by omega)]
  zero := fun m hT hl r hr h0 => by
    show (Cl.prod hp m : Cl p (zs n)) = _
    rw [Cl.prod_split hp m (show r < m.length by omega), Cl.vec_none hp (v := m.getD r []) (fun q hq => ?_), Cl.zero_mul, Cl.mul_zero]
    rw [zs_len] at hq
    have := h0 q hq
    unfold ent at this
    rw [this]; rfl
theorem Alt.clear {hp : 0 < p} {F : List (List Int) → Cl p (zs n)} (A : Alt hp F) {m : List (List Int)} (hT : Tab p n m) (hl : m.length = n) {d k : Nat} (hd : d < n) : ∀ j, j ≤ n → F (clearTo p m d k j) = F m := by
  intro j
  induction j with
  | zero => intro _; rw [clearTo_zero]
  | succ j ih =>
    intro hj
    by_cases h : j = d
    · subst h; rw [clearTo_skip]; exact ih (by omega)
    · rw [clearTo_succ p m d k j (by omega) h]
      have e1 : m.getD j [] = (clearTo p m d k j).getD j [] := by rw [clearTo_getD (by omega), if_neg (by omega)]
      have e2 : m.getD d [] = (clearTo p m d k j).getD d [] := by rw [clearTo_getD (by omega), if_neg (by omega)]
      rw [e1, e2, A.plus _ (clearTo_tab hp hT d k j) (by rw [clearTo_len, hl]) j d _ (by omega) hd h]
      exact ih (by omega)
theorem Alt.step {hp : 0 < p} (hP : isP p = true) {s : List (List Int) × Nat} {k : Nat} (hT : Tab p n s.1) (hl : s.1.length = n) (hd : s.2 ≤ n) : ∃ c : Int, c % p ≠ 0 ∧ ∀ F : List (List Int) → Cl p (zs n), Alt hp F → F (stepB p k s).1 = c * F s.1 := by
  have h3 := isP_ge hP
  unfold stepB
  by_cases h : pivOf s.1 k s.2 = s.1.length
  · rw [if_pos h]
    exact ⟨1, by rw [Int.emod_eq_of_lt (by omega) (by omega)]; decide, fun F _ => (Cl.one_sm _).symm⟩
  · rw [if_neg h]
    obtain ⟨hb1, hb2⟩ := pivOf_bound s.1 k s.2 (by omega)
    have hx : ent s.1 (pivOf s.1 k s.2) k ≠ 0 := piv_at s.1 k _ _ (by unfold pivOf at h hb2; omega)
    have hsl : (scaledAt p s.1 k s.2).length = s.1.length := scaledAt_len _ _ _ _
    have hst := scaledAt_tab (p := p) (k := k) hp hT (show s.2 < s.1.length by omega) (by omega)
    refine ⟨invF p (ent s.1 (pivOf s.1 k s.2) k) * swSg s.2 (pivOf s.1 k s.2), mul_ne hP (unit_inv hP (hT.ent hp _ _) hx) (swSg_ne hP _ _), fun F A => ?_⟩
    show F (clearTo p (scaledAt p s.1 k s.2) s.2 k s.1.length) = _
    rw [A.clear hst (by rw [hsl, hl]) (by omega) _ (by omega)]
    have hw : (swapL s.1 s.2 (pivOf s.1 k s.2)).getD s.2 [] = s.1.getD (pivOf s.1 k s.2) [] := by
      unfold swapL
      rw [getD_set]
      by_cases h : pivOf s.1 k s.2 = s.2
      · rw [if_pos ⟨h, by rw [List.length_set]; omega⟩, h]
      · rw [if_neg fun e => h e.1, getD_set, if_pos ⟨rfl, by omega⟩]
    unfold scaledAt
    rw [← hw, A.scale _ (swapL_tab hT (by omega) (by omega)) (by rw [swapL_len, hl]) _ _ (by omega), A.swap _ hT hl _ _ (by omega) (by omega), Cl.sm_sm]
theorem Alt.basisTo {hp : 0 < p} (hP : isP p = true) {m : List (List Int)} (hT : Tab p n m) (hl : m.length = n) : ∀ k, ∃ c : Int, c % p ≠ 0 ∧ ∀ F : List (List Int) → Cl p (zs n), Alt hp F → F (basisTo p m k).1 = c * F m := by
  have h3 := isP_ge hP
  intro k
  induction k with
  | zero => exact ⟨1, by rw [Int.emod_eq_of_lt (by omega) (by omega)]; decide, fun F _ => (Cl.one_sm _).symm⟩
  | succ k ih =>
    obtain ⟨c, hc, e⟩ := ih
    obtain ⟨t1, t2, t3⟩ := basisTo_inv hp m hT k
    obtain ⟨d, hd, e2⟩ := Alt.step (hp := hp) hP (s := Go.Proofs.YtdbibmilicjllaaGreat.basisTo p m k) (k := k) t1 (by omega) (by omega)
    refine ⟨d * c, mul_ne hP hd hc, fun F A => ?_⟩
    show F (stepB p k (Go.Proofs.YtdbibmilicjllaaGreat.basisTo p m k)).1 = _
    rw [e2 F A, e F A, Cl.sm_sm]
/-- A reduced basis with as many vectors as places is that of the units. -/
theorem full_unit (hP : isP p = true) {B : List (List Int)} (hR : Red n B) (hT : Tab p n B) (hl : B.length = n) : B = unitM n := by
  have h3 := isP_ge hP
  have hin : ∀ v : List Int, v.length = n → Sp p n (unitM n) fun q => v.getD q 0 := fun v hv => by
    refine ⟨fun i => v.getD i 0, fun q hq => ?_⟩
    rw [unitM_len, sumTo_one q hq fun i hi hne => ?_]
    · rw [unitM_ent hq hq, if_pos rfl, Int.mul_one]
    · rw [unitM_ent hi hq, if_neg hne, Int.mul_zero]
  have h1 : InSp p n B (unitM n) := InSp.of_mem fun x hx => hin x (hT x hx).1
  refine Red.unique (by omega) hR (unitM_red n) hT (unitM_tab (by omega) n) h1 (InSp.of_mem fun x hx => Classical.byContradiction fun hn => ?_)
  have hI := Ind.snoc' hP (Red.ind (p := p) hR) hn
  have hx2 := unitM_tab (p := p) (by omega) n x hx
  have hle := hI.le hP (M := unitM n) (InSp.append h1 (InSp.of_mem fun y hy => by rw [List.mem_singleton.1 hy]; exact hin x hx2.1))
  rw [List.length_append, List.length_singleton, unitM_len, hl] at hle
  omega
theorem det_uniq (hp : 0 < p) (h2 : 2 ≤ p) {a b : Int} (h : a * (Cl.prod hp (unitM n) : Cl p (zs n)) = b * Cl.prod hp (unitM n)) : a % p = b % p := by
  have h1 := Cl.prod_at hp h2 (unitM_red n) (unitM_tab h2 n)
  have hM := maskTo_lt (unitM_red n) (unitM n).length (Nat.le_refl _)
  have h3 : (a * Cl.prod hp (unitM n) : Cl p (zs n)).co (maskTo (unitM n) (unitM n).length) % p = (b * Cl.prod hp (unitM n) : Cl p (zs n)).co (maskTo (unitM n) (unitM n).length) % p := by rw [h]
  rw [Cl.sm_co _ _ (by rw [zs_len]; exact hM), Cl.sm_co _ _ (by rw [zs_len]; exact hM), h1, Int.mul_one, Int.mul_one] at h3
  exact h3
/-- An alternating function is the determinant times its value at the units. -/
theorem Alt.all {hp : 0 < p} (hP : isP p = true) {F : List (List Int) → Cl p (zs n)} (A : Alt hp F) {m : List (List Int)} (hT : Tab p n m) (hl : m.length = n) (hn : 0 < n) : F m = detL p m * F (unitM n) := by
  have h3 := isP_ge hP
  obtain ⟨c, hc, e⟩ := Alt.basisTo (hp := hp) hP hT hl n
  have eF := e F A
  have eG := e _ (Alt.prod hp hP)
  have hpd := prod_det hp hP hT hl
  obtain ⟨t1, t2, t3⟩ := basisTo_inv hp m hT n
  obtain ⟨ec, hE⟩ := basisTo_ech hP m hT n (Nat.le_refl _)
  have hl0 := row0_len hT (show 0 < m.length by omega)
  by_cases hfull : (Go.Proofs.YtdbibmilicjllaaGreat.basisTo p m n).2 = n
  · have e4 : basisL p m = (Go.Proofs.YtdbibmilicjllaaGreat.basisTo p m n).1 := by unfold basisL; rw [hl0, hfull, List.take_of_length_le (by omega)]
    have hu := full_unit hP (basisL_red hP m hT) (basisL_tab hp m hT) (by rw [e4]; omega)
    rw [← e4, hu] at eF eG
    have eG' : (Cl.prod hp (unitM n) : Cl p (zs n)) = c * Cl.prod hp m := eG
    rw [hpd, Cl.sm_sm] at eG'
    have h1 := det_uniq (a := 1) (b := c * detL p m) hp (by omega) (by rw [Cl.one_sm]; exact eG')
    rw [eF, Cl.sm_sm, Cl.sm_cg (j := 1) (by rw [Int.mul_comm]; exact h1.symm), Cl.one_sm]
  · have hz : ∀ G : List (List Int) → Cl p (zs n), Alt hp G → G m = Cl.zero hp := fun G AG => by
      refine Cl.sm_cancel hP hc ?_
      rw [← e G AG, Cl.sm_zero]
      exact AG.zero _ t1 (by omega) (Go.Proofs.YtdbibmilicjllaaGreat.basisTo p m n).2 (by omega) fun q hq => hE.rest _ (Nat.le_refl _) (by omega) q hq
    have h1 : (Cl.prod hp m : Cl p (zs n)) = Cl.zero hp := hz _ (Alt.prod hp hP)
    rw [hpd] at h1
    have h2 := det_uniq (a := detL p m) (b := 0) hp (by omega) (by rw [h1, Cl.zero_sm])
    rw [hz F A, Cl.sm_cg (j := 0) h2, Cl.zero_sm]
/-- A linear function of rows. -/
structure Lin (p : Int) (n : Nat) (T : List Int → List Int) : Prop where
  ok : ∀ v, v.length = n → NumsL p v → (T v).length = n ∧ NumsL p (T v)
  plus : ∀ a b k, a.length = n → NumsL p a → b.length = n → NumsL p b → T (plusL p a b k) = plusL p (T a) (T b) k
  scale : ∀ a k, a.length = n → NumsL p a → T (scaleL p a k) = scaleL p (T a) k
theorem map_tab {T : List Int → List Int} (L : Lin p n T) {m : List (List Int)} (hT : Tab p n m) : Tab p n (m.map T) := fun x hx => by
  obtain ⟨v, hv, rfl⟩ := List.mem_map.1 hx
  exact L.ok v (hT v hv).1 (hT v hv).2
theorem map_getD {T : List Int → List Int} {m : List (List Int)} {i : Nat} (hi : i < m.length) : (m.map T).getD i [] = T (m.getD i []) := by
  rw [getD_of_lt [] (by simpa using hi), getD_of_lt [] hi, List.getElem_map]
theorem Alt.map (hp : 0 < p) (hP : isP p = true) {T : List Int → List Int} (L : Lin p n T) : Alt (n := n) hp (fun m => Cl.prod hp (m.map T)) where
  swap := fun m hT hl i j hi hj => by
    show (Cl.prod hp ((swapL m i j).map T) : Cl p (zs n)) = _
    have e : (swapL m i j).map T = swapL (m.map T) i j := by unfold swapL; rw [List.map_set, List.map_set, map_getD (by omega), map_getD (by omega)]
    rw [e, Cl.prod_swap' hp hP (map_tab L hT) (by rw [List.length_map]; omega) (by rw [List.length_map]; omega)]
  plus := fun m hT hl j d k hj hd hjd => by
    show (Cl.prod hp ((m.set j _).map T) : Cl p (zs n)) = _
    have a := hT.row (show j < m.length by omega)
    have b := hT.row (show d < m.length by omega)
    rw [List.map_set, L.plus _ _ _ a.1 a.2 b.1 b.2, ← map_getD (T := T) (show j < m.length by omega), ← map_getD (T := T) (show d < m.length by omega),
      Cl.prod_plus hp hP (map_tab L hT) (by rw [List.length_map]; omega) (by rw [List.length_map]; omega) hjd]
  scale := fun m hT hl j k hj => by
    show (Cl.prod hp ((m.set j _).map T) : Cl p (zs n)) = _
    have a := hT.row (show j < m.length by omega)
    have hj' : j < (m.map T).length := by rw [List.length_map]; omega
    rw [List.map_set, L.scale _ _ a.1 a.2, ← map_getD (T := T) (show j < m.length by omega),
      Cl.set_scale hp _ hj' (((map_tab L hT).row hj').1.trans (zs_len n).symm), set_self _ hj']
  zero := fun m hT hl r hr h0 => by
    show (Cl.prod hp (m.map T) : Cl p (zs n)) = _
    have a := hT.row (show r < m.length by omega)
    have hz : m.getD r [] = scaleL p (m.getD r []) 0 := by
      refine list_ext_getD 0 (by rw [scaleL_len]) fun q hq => ?_
      rw [scaleL_getD _ hq, Int.mul_zero, Int.zero_emod]
      exact h0 q (by omega)
    have hj' : r < (m.map T).length := by rw [List.length_map]; omega
    have e : m.map T = (m.map T).set r (scaleL p ((m.map T).getD r []) 0) := by
      conv => lhs; rw [← set_self (m.map T) hj']
      rw [map_getD (show r < m.length by omega), ← L.scale _ _ a.1 a.2, ← hz]
    rw [e, Cl.set_scale hp _ hj' (((map_tab L hT).row hj').1.trans (zs_len n).symm), Cl.zero_sm]
theorem det_map (hp : 0 < p) (hP : isP p = true) {T : List Int → List Int} (L : Lin p n T) {m : List (List Int)} (hT : Tab p n m) (hl : m.length = n) (hn : 0 < n) : (Cl.prod hp (m.map T) : Cl p (zs n)) = detL p m * Cl.prod hp ((unitM n).map T) :=
  (Alt.map hp hP L).all hP hT hl hn
/-- The determinant of a product. -/
theorem applyL_len (p : Int) (a : List (List Int)) (v : List Int) : (applyL p a v).length = a.length := tab_len _ _
theorem applyL_nums (hp : 0 < p) (a : List (List Int)) (v : List Int) : NumsL p (applyL p a v) := NumsL.tab fun i _ => by
  unfold dotL
  exact ⟨Int.emod_nonneg _ (by omega), Int.emod_lt_of_pos _ hp⟩
theorem lin_apply (hp : 0 < p) {b : List (List Int)} (hb : Tab p n b) (hl : b.length = n) (hn : 0 < n) : Lin p n fun v => applyL p (transL b) v where
  ok := fun v hv _ => ⟨by rw [applyL_len, transL_len hb (by omega)], applyL_nums hp _ _⟩
  plus := fun x y k hx _ hy _ => by
    refine list_ext_getD 0 (by rw [applyL_len, plusL_len, applyL_len]) fun q hq => ?_
    rw [applyL_len, transL_len hb (by omega)] at hq
    rw [apply_at hb (by omega) _ hq, plusL_getD _ _ (by rw [applyL_len, transL_len hb (by omega)]; exact hq), apply_at hb (by omega) _ hq, apply_at hb (by omega) _ hq]
    have h1 : (sumTo b.length fun i => ent b i q * (plusL p x y k).getD i 0) % p = (sumTo b.length fun i => ent b i q * (x.getD i 0 + k * y.getD i 0)) % p := sumTo_mod p fun i hi => by
      rw [plusL_getD _ _ (by omega)]
      exact cg_mul rfl (cg_self _ _)
    have h2 : (sumTo b.length fun i => ent b i q * (x.getD i 0 + k * y.getD i 0)) = (sumTo b.length fun i => ent b i q * x.getD i 0) + k * sumTo b.length fun i => ent b i q * y.getD i 0 := by
      rw [← sumTo_mul, ← sumTo_add]
      exact sumTo_congr fun i _ => by grind
    rw [h1, h2]
    exact (cg_add (cg_self _ _) (cg_mul rfl (cg_self _ _))).symm
  scale := fun x k hx _ => by
    refine list_ext_getD 0 (by rw [applyL_len, scaleL_len, applyL_len]) fun q hq => ?_
    rw [applyL_len, transL_len hb (by omega)] at hq
    rw [apply_at hb (by omega) _ hq, scaleL_getD _ (by rw [applyL_len, transL_len hb (by omega)]; exact hq), apply_at hb (by omega) _ hq]
    have h1 : (sumTo b.length fun i => ent b i q * (scaleL p x k).getD i 0) % p = (sumTo b.length fun i => ent b i q * (x.getD i 0 * k)) % p := sumTo_mod p fun i hi => by
      rw [scaleL_getD _ (by omega)]
      exact cg_mul rfl (cg_self _ _)
    have h2 : (sumTo b.length fun i => ent b i q * (x.getD i 0 * k)) = (sumTo b.length fun i => ent b i q * x.getD i 0) * k := by
      rw [← sumTo_mul_right]
      exact sumTo_congr fun i _ => by grind
    rw [h1, h2]
    exact (cg_mul (cg_self _ _) rfl).symm
theorem unit_apply (hp : 2 ≤ p) {b : List (List Int)} (hb : Tab p n b) (hl : b.length = n) (hn : 0 < n) : (unitM n).map (fun v => applyL p (transL b) v) = b := by
  refine list_ext_getD [] (by rw [List.length_map, unitM_len, hl]) fun i hi => ?_
  rw [List.length_map, unitM_len] at hi
  rw [map_getD (by rw [unitM_len]; exact hi), unitM_getD hi]
  have hbi := hb.row (show i < b.length by omega)
  refine list_ext_getD 0 (by rw [applyL_len, transL_len hb (by omega), hbi.1]) fun q hq => ?_
  rw [applyL_len, transL_len hb (by omega)] at hq
  rw [apply_at hb (by omega) _ hq, hl, sumTo_one i hi fun r hr hne => ?_]
  · rw [unitRow_getD hi, if_pos rfl, Int.mul_one]
    have := hb.ent (by omega) i q
    exact Int.emod_eq_of_lt this.1 this.2
  · rw [unitRow_getD hr, if_neg fun e => hne e.symm, Int.mul_zero]
theorem det_times (hP : isP p = true) {a b : List (List Int)} (ha : Tab p n a) (hla : a.length = n) (hb : Tab p n b) (hlb : b.length = n) (hn : 0 < n) : detL p (timesM p a b) % p = (detL p a * detL p b) % p := by
  have h3 := isP_ge hP
  have hp : 0 < p := by omega
  have L := lin_apply hp hb hlb hn
  have e : timesM p a b = a.map fun v => applyL p (transL b) v := by
    unfold timesM
    refine list_ext_getD [] (by rw [tab_len, List.length_map]) fun i hi => ?_
    rw [tab_len] at hi
    rw [tab_getD hi, map_getD hi]
  have h1 := det_map hp hP L ha hla hn
  rw [← e, unit_apply (by omega) hb hlb hn, prod_det hp hP hb hlb, Cl.sm_sm, prod_det hp hP (by rw [e]; exact map_tab L ha) (by rw [e, List.length_map, hla])] at h1
  exact det_uniq hp (by omega) h1
end
end Go.Proofs.YtdbibmilicjllaaGreat
namespace Go.Proofs.YtdbibmilicjllaaGreat
section
variable {p : Int} {n : Nat}
theorem mat_ext {a b : List (List Int)} (ha : Tab p n a) (hb : Tab p n b) (h : a.length = b.length) (he : ∀ i q, i < a.length → q < n → ent a i q = ent b i q) : a = b := by
  refine list_ext_getD [] h fun i hi => ?_
  have h1 := ha.row hi
  have h2 := hb.row (show i < b.length by omega)
  refine list_ext_getD 0 (by rw [h1.1, h2.1]) fun q hq => ?_
  rw [h1.1] at hq
  exact he i q hi hq
/-- Places exchanged. -/
def swC (n i j : Nat) (v : List Int) : List Int := tab n fun q => v.getD (if q = j then i else if q = i then j else q) 0
/-- A multiple of place j added to place d. -/
def adC (p : Int) (n j d : Nat) (k : Int) (v : List Int) : List Int := tab n fun q => (v.getD q 0 + if q = j then k * v.getD d 0 else 0) % p
/-- A place multiplied. -/
def scC (p : Int) (n j : Nat) (k : Int) (v : List Int) : List Int := tab n fun q => (v.getD q 0 * if q = j then k else 1) % p
theorem sw_lt {i j q : Nat} (hi : i < n) (hj : j < n) (hq : q < n) : (if q = j then i else if q = i then j else q) < n := by
  split
  · exact hi
  · split
    · exact hj
    · exact hq
theorem swC_lin (hp : 0 < p) {i j : Nat} (hi : i < n) (hj : j < n) : Lin p n (swC n i j) where
  ok := fun v _ hv => ⟨tab_len _ _, NumsL.tab fun q _ => hv.getD hp _⟩
  plus := fun a b k ha _ hb _ => by
    refine list_ext_getD 0 (by rw [plusL_len]; unfold swC; rw [tab_len, tab_len]) fun q hq => ?_
    have hq' : q < n := by unfold swC at hq; rw [tab_len] at hq; exact hq
    rw [plusL_getD _ _ (by unfold swC; rw [tab_len]; exact hq')]
    unfold swC
    rw [tab_getD hq', tab_getD hq', tab_getD hq', plusL_getD _ _ (by rw [ha]; exact sw_lt hi hj hq')]
  scale := fun a k ha _ => by
    refine list_ext_getD 0 (by rw [scaleL_len]; unfold swC; rw [tab_len, tab_len]) fun q hq => ?_
    have hq' : q < n := by unfold swC at hq; rw [tab_len] at hq; exact hq
    rw [scaleL_getD _ (by unfold swC; rw [tab_len]; exact hq')]
    unfold swC
    rw [tab_getD hq', tab_getD hq', scaleL_getD _ (by rw [ha]; exact sw_lt hi hj hq')]
theorem adC_lin (hp : 0 < p) {j d : Nat} (_hj : j < n) (hd : d < n) (k : Int) : Lin p n (adC p n j d k) where
  ok := fun v _ _ => ⟨tab_len _ _, NumsL.tab fun q _ => ⟨Int.emod_nonneg _ (by omega), Int.emod_lt_of_pos _ hp⟩⟩
  plus := fun a b c ha _ hb _ => by
    refine list_ext_getD 0 (by rw [plusL_len]; unfold adC; rw [tab_len, tab_len]) fun q hq => ?_
    have hq' : q < n := by unfold adC at hq; rw [tab_len] at hq; exact hq
    rw [plusL_getD _ _ (by unfold adC; rw [tab_len]; exact hq')]
    unfold adC
    rw [tab_getD hq', tab_getD hq', tab_getD hq', plusL_getD _ _ (by omega), plusL_getD _ _ (by omega)]
    refine Eq.trans ?_ (cg_add (cg_self _ _) (cg_mul rfl (cg_self _ _))).symm
    by_cases h : q = j
    · rw [if_pos h, if_pos h, if_pos h]
      refine (cg_add (cg_self _ _) (cg_mul rfl (cg_self _ _))).trans ?_
      congr 1; grind
    · rw [if_neg h, if_neg h, if_neg h, Int.add_zero, Int.add_zero, Int.add_zero]
      exact cg_self _ _
  scale := fun a c ha _ => by
    refine list_ext_getD 0 (by rw [scaleL_len]; unfold adC; rw [tab_len, tab_len]) fun q hq => ?_
    have hq' : q < n := by unfold adC at hq; rw [tab_len] at hq; exact hq
    rw [scaleL_getD _ (by unfold adC; rw [tab_len]; exact hq')]
    unfold adC
    rw [tab_getD hq', tab_getD hq', scaleL_getD _ (by omega), scaleL_getD _ (by omega)]
    refine Eq.trans ?_ (cg_mul (cg_self _ _) rfl).symm
    by_cases h : q = j
    · rw [if_pos h, if_pos h]
      refine (cg_add (cg_self _ _) (cg_mul rfl (cg_self _ _))).trans ?_
      congr 1; grind
    · rw [if_neg h, if_neg h, Int.add_zero, Int.add_zero]
      exact cg_self _ _
theorem scC_lin (hp : 0 < p) (j : Nat) (k : Int) : Lin p n (scC p n j k) where
  ok := fun v _ _ => ⟨tab_len _ _, NumsL.tab fun q _ => ⟨Int.emod_nonneg _ (by omega), Int.emod_lt_of_pos _ hp⟩⟩
  plus := fun a b c ha _ hb _ => by
    refine list_ext_getD 0 (by rw [plusL_len]; unfold scC; rw [tab_len, tab_len]) fun q hq => ?_
    have hq' : q < n := by unfold scC at hq; rw [tab_len] at hq; exact hq
    rw [plusL_getD _ _ (by unfold scC; rw [tab_len]; exact hq')]
    unfold scC
    rw [tab_getD hq', tab_getD hq', tab_getD hq', plusL_getD _ _ (by omega)]
    refine Eq.trans ?_ (cg_add (cg_self _ _) (cg_mul rfl (cg_self _ _))).symm
    refine (cg_mul (cg_self _ _) rfl).trans ?_
    congr 1; grind
  scale := fun a c ha _ => by
    refine list_ext_getD 0 (by rw [scaleL_len]; unfold scC; rw [tab_len, tab_len]) fun q hq => ?_
    have hq' : q < n := by unfold scC at hq; rw [tab_len] at hq; exact hq
    rw [scaleL_getD _ (by unfold scC; rw [tab_len]; exact hq')]
    unfold scC
    rw [tab_getD hq', tab_getD hq', scaleL_getD _ (by omega)]
    refine Eq.trans ?_ (cg_mul (cg_self _ _) rfl).symm
    refine (cg_mul (cg_self _ _) rfl).trans ?_
    congr 1; grind
theorem trans_at {m : List (List Int)} (hT : Tab p n m) (hl : m.length = n) (hn : 0 < n) {i q : Nat} (hi : i < n) (hq : q < n) : ent (transL m) i q = ent m q i := ent_trans hT (by omega) (by omega) hi
theorem trans_ok (hp : 0 < p) {m : List (List Int)} (hT : Tab p n m) (hl : m.length = n) (hn : 0 < n) : Tab p n (transL m) ∧ (transL m).length = n := by
  have := transL_tab hp hT
  rw [hl] at this
  exact ⟨this, transL_len hT (by omega)⟩
/-- The product of a transposed matrix's rows. -/
theorem Alt.trans (hp : 0 < p) (hP : isP p = true) (hn : 0 < n) : Alt (n := n) hp (fun m => Cl.prod hp (transL m)) := by
  have h3 := isP_ge hP
  have hU := unitM_tab (p := p) (by omega) n
  have hUl := unitM_len n
  have key : ∀ (T : List Int → List Int) (L : Lin p n T) (m m' : List (List Int)) (c : Int), Tab p n m → m.length = n → Tab p n m' → m'.length = n →
      (∀ i q, i < n → q < n → ent m' i q = (T ((transL m).getD q [])).getD i 0) → (Cl.prod hp ((unitM n).map T) : Cl p (zs n)) = c * Cl.prod hp (unitM n) →
      (Cl.prod hp (transL m') : Cl p (zs n)) = c * Cl.prod hp (transL m) := by
    intro T L m m' c hT hl hT' hl' he hu
    obtain ⟨t1, t2⟩ := trans_ok hp hT hl hn
    obtain ⟨t1', t2'⟩ := trans_ok hp hT' hl' hn
    have e : transL m' = (transL m).map T := mat_ext t1' (map_tab L t1) (by rw [List.length_map, t2, t2']) fun i q hi hq => by
      rw [t2'] at hi
      rw [trans_at hT' hl' hn hi hq, he q i hq hi]
      show _ = (((transL m).map T).getD i []).getD q 0
      rw [map_getD (by omega)]
    rw [e, det_map hp hP L t1 t2 hn, hu, Cl.sm_sm, Int.mul_comm, ← Cl.sm_sm, ← prod_det hp hP t1 t2]
  have rowT : ∀ (m : List (List Int)), Tab p n m → m.length = n → ∀ q, q < n → ∀ i, i < n → ((transL m).getD q []).getD i 0 = ent m i q := fun m hT hl q hq i hi => trans_at hT hl hn hq hi
  refine ⟨fun m hT hl i j hi hj => ?_, fun m hT hl j d k hj hd hjd => ?_, fun m hT hl j k hj => ?_, fun m hT hl r hr h0 => ?_⟩
  · refine key (swC n i j) (swC_lin hp hi hj) m _ _ hT hl (swapL_tab hT (by omega) (by omega)) (by rw [swapL_len, hl]) (fun r q hr hq => ?_) ?_
    · rw [ent_swap (by omega) (by omega)]
      unfold swC
      rw [tab_getD hr]
      split
      · rw [rowT m hT hl q hq _ hi]
      · split
        · rw [rowT m hT hl q hq _ hj]
        · rw [rowT m hT hl q hq _ hr]
    · have e : (unitM n).map (swC n i j) = swapL (unitM n) i j := mat_ext (map_tab (swC_lin hp hi hj) hU) (swapL_tab hU (by omega) (by omega)) (by rw [List.length_map, swapL_len]) fun r q hr hq => by
        rw [List.length_map, hUl] at hr
        rw [ent_swap (by omega) (by omega)]
        show (((unitM n).map (swC n i j)).getD r []).getD q 0 = _
        rw [map_getD (by omega), unitM_getD hr]
        unfold swC
        rw [tab_getD hq, unitRow_getD (sw_lt hi hj hq), unitM_ent hi hq, unitM_ent hj hq, unitM_ent hr hq]
        grind
      rw [e, Cl.prod_swap' hp hP hU (by omega) (by omega)]
  · show (Cl.prod hp (transL _) : Cl p (zs n)) = Cl.prod hp (transL m)
    have hnew : Tab p n (m.set j (plusL p (m.getD j []) (m.getD d []) k)) := hT.set j ⟨by rw [plusL_len, (hT.row (by omega)).1], plusL_nums hp _ _ _⟩
    rw [← Cl.one_sm (Cl.prod hp (transL m))]
    refine key (adC p n j d k) (adC_lin hp hj hd k) m _ 1 hT hl hnew (by rw [List.length_set, hl]) (fun r q hr hq => ?_) ?_
    · rw [ent_set (by omega)]
      unfold adC
      rw [tab_getD hr, rowT m hT hl q hq _ hr, rowT m hT hl q hq _ hd]
      by_cases h : r = j
      · rw [if_pos h, if_pos h, plusL_getD _ _ (by rw [(hT.row (by omega)).1]; exact hq), h]; rfl
      · rw [if_neg h, if_neg h, Int.add_zero]
        have := hT.ent hp r q
        exact (Int.emod_eq_of_lt this.1 this.2).symm
    · have e : (unitM n).map (adC p n j d k) = (unitM n).set d (plusL p ((unitM n).getD d []) ((unitM n).getD j []) k) := mat_ext (map_tab (adC_lin hp hj hd k) hU) (hU.set d ⟨by rw [plusL_len, (hU.row (by omega)).1], plusL_nums hp _ _ _⟩) (by rw [List.length_map, List.length_set]) fun r q hr hq => by
        rw [List.length_map, hUl] at hr
        rw [ent_set (by omega)]
        show (((unitM n).map (adC p n j d k)).getD r []).getD q 0 = _
        rw [map_getD (by omega), unitM_getD hr]
        unfold adC
        rw [tab_getD hq, unitRow_getD hq, unitRow_getD hd]
        by_cases h : r = d
        · rw [if_pos h, plusL_getD _ _ (by rw [(hU.row (by omega)).1]; exact hq), unitM_getD hd, unitM_getD hj, unitRow_getD hq, unitRow_getD hq, h, if_pos rfl]
          congr 1
          by_cases hqj : q = j
          · rw [if_pos hqj, if_pos hqj.symm]
          · rw [if_neg hqj, if_neg (c := j = q) (fun e => hqj e.symm), Int.mul_zero]
        · rw [if_neg h, if_neg h, unitM_ent hr hq, Int.mul_zero]
          have hz : (if q = j then (0 : Int) else 0) = 0 := by split <;> rfl
          rw [hz, Int.add_zero]
          split
          · exact Int.emod_eq_of_lt (by omega) (by omega)
          · exact Int.zero_emod p
      rw [e, Cl.prod_plus hp hP hU (by omega) (by omega) (fun e => hjd e.symm), Cl.one_sm]
  · have hnew : Tab p n (m.set j (scaleL p (m.getD j []) k)) := hT.set j ⟨by rw [scaleL_len, (hT.row (by omega)).1], scaleL_nums hp _ _⟩
    refine key (scC p n j k) (scC_lin hp j k) m _ k hT hl hnew (by rw [List.length_set, hl]) (fun r q hr hq => ?_) ?_
    · rw [ent_set (by omega)]
      unfold scC
      rw [tab_getD hr, rowT m hT hl q hq _ hr]
      by_cases h : r = j
      · rw [if_pos h, if_pos h, scaleL_getD _ (by rw [(hT.row (by omega)).1]; exact hq), h]; rfl
      · rw [if_neg h, if_neg h, Int.mul_one]
        have := hT.ent hp r q
        exact (Int.emod_eq_of_lt this.1 this.2).symm
    · have e : (unitM n).map (scC p n j k) = (unitM n).set j (scaleL p ((unitM n).getD j []) k) := mat_ext (map_tab (scC_lin hp j k) hU) (hU.set j ⟨by rw [scaleL_len, (hU.row (by omega)).1], scaleL_nums hp _ _⟩) (by rw [List.length_map, List.length_set]) fun r q hr hq => by
        rw [List.length_map, hUl] at hr
        rw [ent_set (by omega)]
        show (((unitM n).map (scC p n j k)).getD r []).getD q 0 = _
        rw [map_getD (by omega), unitM_getD hr]
        unfold scC
        rw [tab_getD hq, unitRow_getD hq]
        by_cases h : r = j
        · rw [if_pos h, scaleL_getD _ (by rw [(hU.row (by omega)).1]; exact hq), unitM_getD hj, unitRow_getD hq, h]
          by_cases hqj : q = j
          · rw [if_pos hqj]
          · rw [if_neg hqj, if_neg fun e => hqj e.symm, Int.zero_mul, Int.zero_mul]
        · rw [if_neg h, unitM_ent hr hq]
          by_cases hrq : r = q
          · rw [if_pos hrq, if_neg (by omega), Int.mul_one]
            exact Int.emod_eq_of_lt (by omega) (by omega)
          · rw [if_neg hrq, Int.zero_mul, Int.zero_emod]
      rw [e, Cl.set_scale hp _ (by omega) (((hU.row (by omega)).1).trans (zs_len n).symm), set_self _ (by omega)]
  · show (Cl.prod hp (transL m) : Cl p (zs n)) = _
    rw [← Cl.zero_sm (Cl.prod hp (transL m))]
    refine key (scC p n r 0) (scC_lin hp r 0) m m 0 hT hl hT hl (fun i q hi hq => ?_) ?_
    · unfold scC
      rw [tab_getD hi, rowT m hT hl q hq _ hi]
      by_cases h : i = r
      · rw [if_pos h, Int.mul_zero, Int.zero_emod, h]; exact h0 q hq
      · rw [if_neg h, Int.mul_one]
        have := hT.ent hp i q
        exact (Int.emod_eq_of_lt this.1 this.2).symm
    · rw [Cl.zero_sm]
      refine (Alt.prod hp hP).zero _ (map_tab (scC_lin hp r 0) hU) (by rw [List.length_map, hUl]) r hr fun q hq => ?_
      show (((unitM n).map (scC p n r 0)).getD r []).getD q 0 = 0
      rw [map_getD (by omega), unitM_getD hr]
      unfold scC
      rw [tab_getD hq, unitRow_getD hq]
      by_cases h : q = r
      · rw [if_pos h, Int.mul_zero, Int.zero_emod]
      · rw [if_neg h, if_neg fun e => h e.symm, Int.zero_mul, Int.zero_emod]
theorem trans_unit (hp : 2 ≤ p) (hn : 0 < n) : transL (unitM n) = unitM n := by
  have hU := unitM_tab hp n
  have hUl := unitM_len n
  obtain ⟨t1, t2⟩ := trans_ok (p := p) (by omega) hU hUl hn
  refine mat_ext t1 hU (by rw [t2, hUl]) fun i q hi hq => ?_
  rw [t2] at hi
  rw [trans_at hU hUl hn hi hq, unitM_ent hq hi, unitM_ent hi hq]
  grind
/-- The determinant of the transposed matrix. -/
theorem det_trans (hP : isP p = true) {m : List (List Int)} (hT : Tab p n m) (hl : m.length = n) (hn : 0 < n) : detL p (transL m) = detL p m := by
  have h3 := isP_ge hP
  have hp : 0 < p := by omega
  obtain ⟨t1, t2⟩ := trans_ok hp hT hl hn
  have h1 : (Cl.prod hp (transL m) : Cl p (zs n)) = detL p m * Cl.prod hp (transL (unitM n)) := (Alt.trans hp hP hn).all hP hT hl hn
  rw [trans_unit (p := p) (by omega) hn, prod_det hp hP t1 t2] at h1
  have h2 := det_uniq hp (by omega) h1
  have b1 := detL_small (p := p) (by omega) (transL m)
  have b2 := detL_small (p := p) (by omega) m
  rwa [Int.emod_eq_of_lt b1.1 b1.2, Int.emod_eq_of_lt b2.1 b2.2] at h2
theorem det_unit (hP : isP p = true) : detL p (unitM n) = 1 := by
  have h3 := isP_ge hP
  have hp : 0 < p := by omega
  have h := prod_det (n := n) hp hP (unitM_tab (by omega) n) (unitM_len n)
  have h2 := det_uniq (a := 1) (b := detL p (unitM n)) hp (by omega) (by rw [Cl.one_sm]; exact h)
  have b := detL_small (p := p) (by omega) (unitM n)
  rw [Int.emod_eq_of_lt b.1 b.2, Int.emod_eq_of_lt (by omega) (by omega)] at h2
  exact h2.symm
end
end Go.Proofs.YtdbibmilicjllaaGreat
namespace Go.Proofs.YtdbibmilicjllaaGreat
/-- Matrices with n rows and columns of numbers. -/
structure Mt (p : Int) (n : Nat) where
  l : List (List Int)
  len : l.length = n
  tab : Tab p n l
  pos : 0 < p
section
variable {p : Int} {n : Nat}
def Mt.at (x : Mt p n) (i j : Nat) : Int := ent x.l i j
theorem Mt.ext {x y : Mt p n} (h : x.l = y.l) : x = y := by
  cases x; cases y; simp only at h; subst h; rfl
theorem Mt.small (x : Mt p n) (i j : Nat) : 0 ≤ x.at i j ∧ x.at i j < p := x.tab.ent x.pos i j
theorem Mt.same {x y : Mt p n} (h : ∀ i j, i < n → j < n → x.at i j % p = y.at i j % p) : x = y := Mt.ext (mat_ext x.tab y.tab (x.len.trans y.len.symm) fun i q hi hq => by
  rw [x.len] at hi
  exact cg_eq (x.small i q) (y.small i q) (h i q hi hq))
def Mt.of (hp : 0 < p) (f : Nat → Nat → Int) : Mt p n := ⟨Go.Proofs.YtdbibmilicjllaaGreat.tab n fun i => Go.Proofs.YtdbibmilicjllaaGreat.tab n fun j => f i j % p, tab_len _ _, Tab.tab fun i _ => ⟨tab_len _ _, NumsL.tab fun j _ => ⟨Int.emod_nonneg _ (by omega), Int.emod_lt_of_pos _ hp⟩⟩, hp⟩
theorem Mt.of_at (hp : 0 < p) (f : Nat → Nat → Int) {i j : Nat} (hi : i < n) (hj : j < n) : (Mt.of hp f : Mt p n).at i j = f i j % p := by
  show ((Go.Proofs.YtdbibmilicjllaaGreat.tab n fun i => Go.Proofs.YtdbibmilicjllaaGreat.tab n fun j => f i j % p).getD i []).getD j 0 = _
  rw [tab_getD hi, tab_getD hj]
theorem Mt.of_cg (hp : 0 < p) (f : Nat → Nat → Int) {i j : Nat} (hi : i < n) (hj : j < n) : (Mt.of hp f : Mt p n).at i j % p = f i j % p := by rw [Mt.of_at hp f hi hj, cg_self]
instance : Mul (Mt p n) := ⟨fun x y => Mt.of x.pos fun i j => sumTo n fun k => x.at i k * y.at k j⟩
instance : Add (Mt p n) := ⟨fun x y => Mt.of x.pos fun i j => x.at i j + y.at i j⟩
instance : HMul Int (Mt p n) (Mt p n) := ⟨fun k x => Mt.of x.pos fun i j => k * x.at i j⟩
def Mt.one (hp : 0 < p) : Mt p n := Mt.of hp fun i j => if i = j then 1 else 0
def Mt.tr (x : Mt p n) : Mt p n := Mt.of x.pos fun i j => x.at j i
theorem Mt.mul_at (x y : Mt p n) {i j : Nat} (hi : i < n) (hj : j < n) : (x * y).at i j % p = (sumTo n fun k => x.at i k * y.at k j) % p := Mt.of_cg x.pos _ hi hj
theorem Mt.add_at (x y : Mt p n) {i j : Nat} (hi : i < n) (hj : j < n) : (x + y).at i j % p = (x.at i j + y.at i j) % p := Mt.of_cg x.pos _ hi hj
theorem Mt.one_at (hp : 0 < p) {i j : Nat} (hi : i < n) (hj : j < n) : (Mt.one hp : Mt p n).at i j % p = (if i = j then 1 else 0) % p := Mt.of_cg hp _ hi hj
theorem Mt.tr_at (x : Mt p n) {i j : Nat} (hi : i < n) (hj : j < n) : x.tr.at i j % p = x.at j i % p := Mt.of_cg x.pos (fun i j => x.at j i) hi hj
theorem Mt.mul_assoc (x y z : Mt p n) : x * y * z = x * (y * z) := Mt.same fun i j hi hj => by
  rw [Mt.mul_at _ _ hi hj, Mt.mul_at _ _ hi hj]
  have h1 : (sumTo n fun k => (x * y).at i k * z.at k j) % p = (sumTo n fun k => sumTo n fun r => x.at i r * y.at r k * z.at k j) % p := sumTo_mod p fun k hk => by
    rw [cg_mul (Mt.mul_at x y hi hk) rfl, ← sumTo_mul_right]
  have h2 : (sumTo n fun r => x.at i r * (y * z).at r j) % p = (sumTo n fun r => sumTo n fun k => x.at i r * y.at r k * z.at k j) % p := sumTo_mod p fun r hr => by
    rw [cg_mul (rfl : x.at i r % p = x.at i r % p) (Mt.mul_at y z hr hj), ← sumTo_mul]
    congr 1
    exact sumTo_congr fun k _ => (Int.mul_assoc _ _ _).symm
  rw [h1, h2, sumTo_comm]
theorem Mt.one_mul (hp : 0 < p) (x : Mt p n) : Mt.one hp * x = x := Mt.same fun i j hi hj => by
  rw [Mt.mul_at _ _ hi hj]
  have h : (sumTo n fun k => (Mt.one hp : Mt p n).at i k * x.at k j) % p = (sumTo n fun k => (if i = k then 1 else 0) * x.at k j) % p := sumTo_mod p fun k hk => cg_mul (Mt.one_at hp hi hk) rfl
  rw [h, sumTo_one i hi fun k _ hne => by rw [if_neg fun e => hne e.symm, Int.zero_mul], if_pos rfl, Int.one_mul]
theorem Mt.mul_one (hp : 0 < p) (x : Mt p n) : x * Mt.one hp = x := Mt.same fun i j hi hj => by
  rw [Mt.mul_at _ _ hi hj]
  have h : (sumTo n fun k => x.at i k * (Mt.one hp : Mt p n).at k j) % p = (sumTo n fun k => x.at i k * (if k = j then 1 else 0)) % p := sumTo_mod p fun k hk => cg_mul rfl (Mt.one_at hp hk hj)
  rw [h, sumTo_one j hj fun k _ hne => by rw [if_neg hne, Int.mul_zero], if_pos rfl, Int.mul_one]
theorem Mt.add_comm (x y : Mt p n) : x + y = y + x := Mt.same fun i j hi hj => by rw [Mt.add_at _ _ hi hj, Mt.add_at _ _ hi hj, Int.add_comm]
theorem Mt.add_assoc (x y z : Mt p n) : x + y + z = x + (y + z) := Mt.same fun i j hi hj => by
  rw [Mt.add_at _ _ hi hj, Mt.add_at _ _ hi hj, cg_add (Mt.add_at x y hi hj) rfl, cg_add (rfl : x.at i j % p = x.at i j % p) (Mt.add_at y z hi hj), Int.add_assoc]
theorem Mt.mul_l (x y : Mt p n) (hn : 0 < n) : (x * y).l = timesM p x.l y.l := by
  have hT : Tab p n (timesM p x.l y.l) := by
    refine Tab.tab fun i hi => ?_
    exact ⟨by rw [applyL_len, transL_len y.tab (by rw [y.len]; exact hn)], applyL_nums x.pos _ _⟩
  refine mat_ext (x * y).tab hT (by rw [(x * y).len]; unfold timesM; rw [tab_len, x.len]) fun i q hi hq => ?_
  rw [(x * y).len] at hi
  have e : ent (timesM p x.l y.l) i q = (applyL p (transL y.l) (x.l.getD i [])).getD q 0 := by
    unfold ent timesM
    rw [tab_getD (by rw [x.len]; exact hi)]
  rw [e, apply_at y.tab (by rw [y.len]; exact hn) _ hq, y.len]
  show (x * y).at i q = _
  have h := Mt.mul_at x y hi hq
  rw [Int.emod_eq_of_lt ((x * y).small i q).1 ((x * y).small i q).2] at h
  rw [h]
  congr 1
  exact sumTo_congr fun k _ => Int.mul_comm _ _
theorem Mt.one_l (hp : 2 ≤ p) : (Mt.one (by omega) : Mt p n).l = unitM n := mat_ext (Mt.one (p := p) (n := n) (by omega)).tab (unitM_tab hp n) (by rw [Mt.len, unitM_len]) fun i q hi hq => by
  rw [Mt.len] at hi
  rw [unitM_ent hi hq]
  show (Mt.one (by omega) : Mt p n).at i q = _
  have h := Mt.one_at (p := p) (n := n) (by omega) hi hq
  rw [Int.emod_eq_of_lt (Mt.small _ i q).1 (Mt.small _ i q).2] at h
  rw [h]
  split
  · exact Int.emod_eq_of_lt (by omega) (by omega)
  · exact Int.zero_emod p
theorem Mt.tr_l (x : Mt p n) (hn : 0 < n) : x.tr.l = transL x.l := by
  obtain ⟨t1, t2⟩ := trans_ok x.pos x.tab x.len hn
  refine mat_ext x.tr.tab t1 (by rw [Mt.len, t2]) fun i q hi hq => ?_
  rw [Mt.len] at hi
  rw [trans_at x.tab x.len hn hi hq]
  show x.tr.at i q = x.at q i
  exact cg_eq (x.tr.small i q) (x.small q i) (Mt.tr_at x hi hq)
def Mt.det (x : Mt p n) : Int := detL p x.l
theorem Mt.det_mul (hP : isP p = true) (hn : 0 < n) (x y : Mt p n) : (x * y).det % p = (x.det * y.det) % p := by
  unfold Mt.det
  rw [Mt.mul_l x y hn]
  exact det_times hP x.tab x.len y.tab y.len hn
theorem Mt.det_tr (hP : isP p = true) (hn : 0 < n) (x : Mt p n) : x.tr.det = x.det := by
  unfold Mt.det
  rw [Mt.tr_l x hn]
  exact det_trans hP x.tab x.len hn
theorem Mt.det_one (hP : isP p = true) (hp : 0 < p) : (Mt.one hp : Mt p n).det = 1 := by
  have h3 := isP_ge hP
  unfold Mt.det
  rw [Mt.one_l (by omega)]
  exact det_unit hP
end
end Go.Proofs.YtdbibmilicjllaaGreat
namespace Go.Proofs.YtdbibmilicjllaaGreat
section
variable {p : Int} {n : Nat}
instance : Std.Associative (α := Mt p n) (· + ·) := ⟨Mt.add_assoc⟩
instance : Std.Commutative (α := Mt p n) (· + ·) := ⟨Mt.add_comm⟩
/-- Plus and minus. -/
def Mt.plus (hp : 0 < p) (a : Mt p n) : Mt p n := Mt.one hp + a
def Mt.minus (hp : 0 < p) (a : Mt p n) : Mt p n := Mt.one hp + (-1 : Int) * a
end
end Go.Proofs.YtdbibmilicjllaaGreat
namespace Go.Proofs.YtdbibmilicjllaaGreat
section
variable {p : Int} {n : Nat} {M : List (List Int)}
theorem unitRow_ent {n i k : Nat} (hi : i < n) (hk : k < n) : (unitRow n i).getD k 0 = if i = k then 1 else 0 := by
  rw [← unitM_ent hi hk]; unfold ent; rw [unitM_getD hi]
def Mt.mk' (hp : 0 < p) (hT : Tab p n M) (hl : M.length = n) : Mt p n := ⟨M, hl, hT, hp⟩
end
end Go.Proofs.YtdbibmilicjllaaGreat
namespace Go.Proofs.YtdbibmilicjllaaGreat
open Go.RowKit
set_option maxHeartbeats 1600000 in
set_option maxRecDepth 8000 in
theorem isTable_ok (p : Int) (A : Option Addr) (n c : Nat) (M : List (List Int)) (m : Nat) (w : World) (hp0 : 0 < p) (hp1 : p ≤ 13) (hn : n ≤ 16) (hm1 : 1 ≤ m) (hm : m ≤ 16) (ha : RdII w A n M) (hT : Tab p m M) :
    Calls Tryz.prog 252 #[.int .i64 p, .slice A n c] w fun e w' => e = .returned (.bool true) ∧ w = w' := by
  have HT := Lib.hid hT
  have t1 : decide ((16 : Int) < (n : Int)) = false := by simp; omega
  have t2 : decide ((m : Int) < 1) = false := by simp; omega
  have t3 : decide ((16 : Int) < (m : Int)) = false := by simp; omega
  have t4 : ((m : Int) != (m : Int)) = false := by simp
  clear hT
  go_enter Tryz.func252, Tryz.ntmps252
  go_wp2
  go_loopw [12] (fun i wr => ∃ k : Nat, k ≤ n ∧ i = .int .i64 k ∧ wr = w) (fun i _ => n - (intOf i).toNat)
  case atStart => exact ⟨0, by omega, rfl, rfl⟩
  case round =>
    obtain ⟨k, hk, rfl, rfl⟩ := hrel
    by_cases hlt : k < n
    · obtain ⟨g, o, rfl, hxk, A1, c1, hc1, hr1, -⟩ := ha.at_ hlt
      obtain ⟨g0, o0, e0, hx0, A0, c0, hc0, hr0, -⟩ := ha.at_ (show 0 < n by omega)
      cases e0
      obtain ⟨l1, n1⟩ := HT.out M[k] (List.getElem_mem hxk)
      obtain ⟨l0, -⟩ := HT.out M[0] (List.getElem_mem hx0)
      rw [l1] at hc1 hr1
      rw [l0] at hc0
      rw [Nat.add_zero] at hc0
      have his := is_b p A1 m c1 M[k] wr (by omega) (by omega) (by omega) hr1 (List.all_eq_true.2 fun x hx => by have := n1 x hx; simp [inR]; omega)
      clear hr1 hr0 l1 n1 l0 ha
      go_wp2_with fail
      refine his.mono ?_
      rintro e w1 ⟨rfl, rfl⟩
      go_wp2
      go_roundw
      case rel => exact ⟨k + 1, by omega, by go_num, by first | rfl | trivial⟩
      case measure => simp [intOf]; omega
    · go_wp2
      go_ret
      exact ⟨rfl, rfl⟩
set_option maxHeartbeats 800000 in
set_option maxRecDepth 8000 in
theorem isMatrix_ok (p : Int) (A : Option Addr) (n c : Nat) (M : List (List Int)) (m : Nat) (w : World) (hp0 : 0 < p) (hp1 : p ≤ 13) (hn0 : 0 < n) (hn : n ≤ 16) (hm1 : 1 ≤ m) (hm : m ≤ 16) (ha : RdII w A n M) (hT : Tab p m M) :
    Calls Tryz.prog 328 #[.int .i64 p, .slice A n c] w fun e w' => e = .returned (.bool true) ∧ w = w' := by
  have h := isTable_ok p A n c M m w hp0 hp1 hn hm1 hm ha hT
  have t1 : decide ((0 : Int) < (n : Int)) = true := by simp; omega
  clear hT
  go_enter Tryz.func328, Tryz.ntmps328
  go_wp2_with fail
  refine h.mono ?_
  rintro e w1 ⟨rfl, rfl⟩
  go_wp2
  go_ret
  exact ⟨rfl, rfl⟩
/-- A block of matrices. -/
def RdM (w : World) (g n : Nat) (p : Int) : Prop := ∀ k, k < n → ∃ (A : Option Addr) (r c m : Nat) (M : List (List Int)), w.cell? ⟨g, k, none⟩ = some (.slice A r c) ∧ RdII w A r M ∧ Tab p m M ∧ 0 < r ∧ r ≤ 16 ∧ 1 ≤ m ∧ m ≤ 16
theorem RdM.below {w w' : World} {g n : Nat} {p : Int} (h : RdM w g n p) (hb : Below w.heap.size w w') : RdM w' g n p := fun k hk => by
  obtain ⟨A, r, c, m, M, h1, h2, h3⟩ := h k hk
  exact ⟨A, r, c, m, M, (hb.cell (World.block_lt_of_cell? _ _ h1)).trans h1, h2.below hb, h3⟩
set_option maxHeartbeats 800000 in
set_option maxRecDepth 8000 in
theorem IndexFuncM_no (f : FuncId) (q : Addr) (p : Int) (g n c : Nat) (w : World) (hn : n ≤ 1000) (ha : RdM w g n p) (hf : ∀ (w' : World) (A : Option Addr) (r c m : Nat) (M : List (List Int)), Below w.heap.size w w' → RdII w' A r M → Tab p m M → 0 < r → r ≤ 16 → 1 ≤ m → m ≤ 16 → Calls Tryz.prog f #[.slice A r c, .pointer (some q)] w' fun e w'' => e = .returned (.bool false) ∧ Below w'.heap.size w' w'') (hcf : ∀ (args : Array Value) (w : World), (callFunc f args).run Tryz.prog w = .ok (.enter f args) w) :
    Calls Tryz.prog 435 #[.slice (some ⟨g, 0, none⟩) n c, .func (.func f) #[] #[.pointer (some q)]] w fun e w' => e = .returned (.int .i64 (-1)) ∧ Below w.heap.size w w' := by
  go_enter Tryz.func435, Tryz.ntmps435
  go_wp2
  go_loopw [8] (fun i wr => ∃ k : Nat, k ≤ n ∧ i = .int .i64 k ∧ Below w.heap.size w wr) (fun i _ => n - (intOf i).toNat)
  case atStart => exact ⟨0, by omega, rfl, Below.refl _ _⟩
  case round =>
    obtain ⟨k, hk, rfl, hB⟩ := hrel
    by_cases hlt : k < n
    · obtain ⟨A, r, c', m, M, hcx, h1, h2, h3, h4, h5, h6⟩ := (ha.below hB) k hlt
      have hcall := hf _ A r c' m M hB h1 h2 h3 h4 h5 h6
      clear ha hf h1 h2
      go_wp2_with fail
      refine hcall.mono ?_
      rintro e w1 ⟨rfl, hb1⟩
      go_wp2
      go_roundw
      case rel => exact ⟨k + 1, by omega, by go_num, hB.trans (hb1.mono hB.size)⟩
      case measure => simp [intOf]; omega
    · go_wp2
      go_ret
      exact ⟨rfl, hB⟩
set_option maxHeartbeats 400000 in
set_option maxRecDepth 8000 in
theorem ContainsFuncM_no (f : FuncId) (q : Addr) (p : Int) (g n c : Nat) (w : World) (hn : n ≤ 1000) (ha : RdM w g n p) (hf : ∀ (w' : World) (A : Option Addr) (r c m : Nat) (M : List (List Int)), Below w.heap.size w w' → RdII w' A r M → Tab p m M → 0 < r → r ≤ 16 → 1 ≤ m → m ≤ 16 → Calls Tryz.prog f #[.slice A r c, .pointer (some q)] w' fun e w'' => e = .returned (.bool false) ∧ Below w'.heap.size w' w'') (hcf : ∀ (args : Array Value) (w : World), (callFunc f args).run Tryz.prog w = .ok (.enter f args) w) :
    Calls Tryz.prog 339 #[.slice (some ⟨g, 0, none⟩) n c, .func (.func f) #[] #[.pointer (some q)]] w fun e w' => e = .returned (.bool false) ∧ Below w.heap.size w w' := by
  have h := IndexFuncM_no f q p g n c w hn ha hf hcf
  clear hf
  go_enter Tryz.func339, Tryz.ntmps339
  go_wp2_with fail
  refine h.mono ?_
  rintro e w1 ⟨rfl, hb⟩
  go_wp2
  go_ret
  exact ⟨rfl, hb⟩
set_option maxHeartbeats 800000 in
set_option maxRecDepth 8000 in
theorem notMatrix_no (p : Int) (b : Nat) (A : Option Addr) (r c m : Nat) (M : List (List Int)) (w : World) (hp0 : 0 < p) (hp1 : p ≤ 13) (hk : Blk w b 2 #[.int .i64 p]) (ha : RdII w A r M) (hT : Tab p m M) (h3 : 0 < r) (h4 : r ≤ 16) (h5 : 1 ≤ m) (h6 : m ≤ 16) :
    Calls Tryz.prog 340 #[.slice A r c, .pointer (some ⟨b, 0, none⟩)] w fun e w' => e = .returned (.bool false) ∧ Below w.heap.size w w' := by
  have h := isMatrix_ok p A r c M m w hp0 hp1 h3 h4 h5 h6 ha hT
  have q0 : w.cell? ⟨b, 0, none⟩ = some (.int .i64 p) := by rw [hk.cell]; rfl
  clear hT ha
  go_enter Tryz.func340, Tryz.ntmps340
  go_wp2_with fail
  refine h.mono ?_
  rintro e w1 ⟨rfl, rfl⟩
  go_wp2
  go_ret
  exact ⟨rfl, Below.refl _ _⟩
set_option maxHeartbeats 800000 in
set_option maxRecDepth 8000 in
theorem checkMatrices_ok (p : Int) (g n c : Nat) (w : World) (HP : isP p = true) (hn : n ≤ 1000) (ha : RdM w g n p) :
    Calls Tryz.prog 171 #[.int .i64 p, .slice (some ⟨g, 0, none⟩) n c] w fun e w' => e = .returned (.int .i64 0) ∧ Below w.heap.size w w' := by
  obtain ⟨hp3, hp2⟩ := isP_ge HP
  have hB : Below w.heap.size w (w.alloc (.cells #[.int .i64 p] 2)) := (Below.refl _ _).alloc (Nat.le_refl _) _
  have k0 : Blk (w.alloc (.cells #[.int .i64 p] 2)) w.heap.size 2 #[.int .i64 p] := Blk.new _ _ _
  have hmf : ∀ (fn : Fn) (first cap : Array Value) (w : World), (Instr.makeFunc fn first cap).run Tryz.prog w = .ok (.func fn first cap) w := fun _ _ _ _ => rfl
  have hip := IsPrime_b p (w.alloc (.cells #[.int .i64 p] 2)) HP
  have hcf := ContainsFuncM_no 340 ⟨w.heap.size, 0, none⟩ p g n c (w.alloc (.cells #[.int .i64 p] 2)) hn (ha.below hB) (fun w' A r c' m M hb h1 h2 h3 h4 h5 h6 => notMatrix_no p w.heap.size A r c' m M w' (by omega) hp2 (k0.below hb k0.lt) h1 h2 h3 h4 h5 h6) (fun _ _ => rfl)
  clear HP ha
  go_enter Tryz.func171, Tryz.ntmps171
  go_wp2_with fail
  refine hip.mono ?_
  rintro e w1 ⟨rfl, rfl⟩
  go_wp2_with fail
  refine hcf.mono ?_
  rintro e w2 ⟨rfl, hb2⟩
  go_wp2
  go_ret
  exact ⟨rfl, hB.trans (hb2.mono hB.size)⟩
set_option maxHeartbeats 800000 in
set_option maxRecDepth 8000 in
theorem checkSquare_ok (p : Int) (A : Option Addr) (n c : Nat) (M : List (List Int)) (w : World) (HP : isP p = true) (hn0 : 0 < n) (hn : n ≤ 16) (ha : RdII w A n M) (hM : Tab p n M) :
    Calls Tryz.prog 169 #[.int .i64 p, .slice A n c] w fun e w' => e = .returned (.int .i64 0) ∧ Below w.heap.size w w' := by
  have hB : Below w.heap.size w (w.alloc (.cells #[.slice A n c] 27)) := (Below.refl _ _).alloc (Nat.le_refl _) _
  have hkn : Blk (w.alloc (.cells #[.slice A n c] 27)) w.heap.size 27 #[.slice A n c] := Blk.new _ _ _
  have hrm : RdM (w.alloc (.cells #[.slice A n c] 27)) w.heap.size 1 p := fun k hk => ⟨A, n, c, n, M, by (obtain rfl : k = 0 := by omega); rw [hkn.cell]; rfl, ha.below hB, hM, by omega, hn, by omega, hn⟩
  have hck := checkMatrices_ok p w.heap.size 1 1 (w.alloc (.cells #[.slice A n c] 27)) HP (by omega) hrm
  clear hrm hkn
  have HM := Lib.hid hM
  clear hM
  go_enter Tryz.func169, Tryz.ntmps169
  go_wp2_with fail
  refine hck.mono ?_
  rintro e w1 ⟨rfl, hb1⟩
  have hB1 := hB.trans (hb1.mono hB.size)
  obtain ⟨g, o, rfl, hx0, A0, c0, hc0, -, -⟩ := (ha.below hB1).at_ hn0
  rw [(HM.out M[0] (List.getElem_mem hx0)).1, Nat.add_zero] at hc0
  have t4 : ((n : Int) != (n : Int)) = false := by simp
  clear hck ha
  go_wp2
  go_ret
  exact ⟨rfl, hB1⟩
set_option maxHeartbeats 800000 in
set_option maxRecDepth 8000 in
theorem MultiplyMatrices_ok (p : Int) (A : Option Addr) (n c : Nat) (M : List (List Int)) (B : Option Addr) (d : Nat) (N : List (List Int)) (w : World) (HP : isP p = true) (hn0 : 0 < n) (hn : n ≤ 16) (ha : RdII w A n M) (hM : Tab p n M) (hb : RdII w B n N) (hN : Tab p n N) :
    Calls Tryz.prog 37 #[.int .i64 p, .slice A n c, .slice B n d] w fun e w' => ∃ (A' : Option Addr) (c' : Nat), e = .returned (.tuple #[.slice A' n c', .int .i64 0]) ∧ MkII w w' A' n c' (timesM p M N) := by
  obtain ⟨hp3, hp2⟩ := isP_ge HP
  have hB : Below w.heap.size w (w.alloc (.cells #[.slice A n c, .slice B n d] 27)) := (Below.refl _ _).alloc (Nat.le_refl _) _
  have hkn : Blk (w.alloc (.cells #[.slice A n c, .slice B n d] 27)) w.heap.size 27 #[.slice A n c, .slice B n d] := Blk.new _ _ _
  have hrm : RdM (w.alloc (.cells #[.slice A n c, .slice B n d] 27)) w.heap.size 2 p := fun k hk => by
    rcases Nat.lt_or_ge k 1 with h | h
    · obtain rfl : k = 0 := by omega
      exact ⟨A, n, c, n, M, by rw [hkn.cell]; rfl, ha.below hB, hM, by omega, hn, by omega, hn⟩
    · obtain rfl : k = 1 := by omega
      exact ⟨B, n, d, n, N, by rw [hkn.cell]; rfl, hb.below hB, hN, by omega, hn, by omega, hn⟩
  have hck := checkMatrices_ok p w.heap.size 2 2 (w.alloc (.cells #[.slice A n c, .slice B n d] 27)) HP (by omega) hrm
  have hti := Lib.hid fun w' (h : Below w.heap.size w w') => timesM_any p A n c M B d N w' (by omega) hp2 hn0 (by omega) (ha.below h) hM (hb.below h) hN
  clear hrm hkn hN hb HP
  have HM := Lib.hid hM
  clear hM
  go_enter Tryz.func37, Tryz.ntmps37
  go_wp2_with fail
  refine hck.mono ?_
  rintro e w1 ⟨rfl, hb1⟩
  have hB1 := hB.trans (hb1.mono hB.size)
  have hcall := hti.out w1 hB1
  obtain ⟨g, o, rfl, hx0, A0, c0, hc0, -, -⟩ := (ha.below hB1).at_ hn0
  rw [(HM.out M[0] (List.getElem_mem hx0)).1, Nat.add_zero] at hc0
  have t4 : ((n : Int) != (n : Int)) = false := by simp
  clear hck ha hti
  go_wp2_with fail
  refine hcall.mono ?_
  rintro e w2 ⟨A', c', rfl, hMM⟩
  go_wp2
  go_ret2
  exact ⟨A', c', rfl, hMM.after hB1⟩
end Go.Proofs.YtdbibmilicjllaaGreat
namespace Go.Proofs.YtdbibmilicjllaaGreat
open Go.RowKit
def MkO (w0 w : World) (A : Option Addr) (n c : Nat) (xss : List (List Int)) : Prop := ∃ rows, Mk w0 w 24 A n c rows ∧ rows.length = xss.length ∧
  ∀ (k : Nat) (h : k < xss.length), ∃ A' c', rows[k]? = some (.slice A' xss[k].length c') ∧ Own w 0 2 A' xss[k].length c' (ints xss[k])
theorem MkII.o {w0 w : World} {A : Option Addr} {n c : Nat} {xss : List (List Int)} (h : MkII w0 w A n c xss) : MkO w0 w A n c xss := by
  obtain ⟨rows, hm, hn⟩ := h
  exact ⟨rows, hm, hn.len, fun k hk => by obtain ⟨A', c', e, ho⟩ := hn.row k hk; exact ⟨A', c', e, ho.base (Nat.zero_le _)⟩⟩
theorem MkO.rd {w0 w : World} {A : Option Addr} {n c : Nat} {xss : List (List Int)} (h : MkO w0 w A n c xss) : RdII w A n xss := by
  obtain ⟨rows, hm, hl, hk⟩ := h
  exact ⟨rows, hm.rd, hl, fun k hlt => by obtain ⟨A', c', e, ho⟩ := hk k hlt; exact ⟨A', c', e, ho.rd, ho.cap⟩⟩
theorem MkO.b {w0 w : World} {A : Option Addr} {n c : Nat} {xss : List (List Int)} (h : MkO w0 w A n c xss) : Below w0.heap.size w0 w := by
  obtain ⟨_, hm, _⟩ := h; exact hm.1
theorem MkO.below {w0 w w' : World} {A : Option Addr} {n c : Nat} {xss : List (List Int)} (h : MkO w0 w A n c xss) (hb : Below w.heap.size w w') : MkO w0 w' A n c xss := by
  obtain ⟨rows, hm, hl, hk⟩ := h
  exact ⟨rows, hm.below hb, hl, fun k hlt => by obtain ⟨A', c', e, ho⟩ := hk k hlt; exact ⟨A', c', e, ho.below hb⟩⟩
theorem MkO.after {w0 w1 w : World} {A : Option Addr} {n c : Nat} {xss : List (List Int)} (h : MkO w1 w A n c xss) (hb : Below w0.heap.size w0 w1) : MkO w0 w A n c xss := by
  obtain ⟨rows, hm, hl, hk⟩ := h
  exact ⟨rows, hm.after hb, hl, hk⟩
theorem MkO.ne_blk {w0 w : World} {A : Option Addr} {n c g : Nat} {xss : List (List Int)} {t : TypeId} {cs : Array Value} (h : MkO w0 w A n c xss) (hb : Blk w g t cs) (hE : 24 ≠ t) : some g ≠ (Value.slice A n c).ownBlock := by
  obtain ⟨rows, hm, _⟩ := h
  exact hm.2.ne_blk hb hE
/-- A row that lies there is appended. -/
theorem wpList_appRowO {ops : Array Oper} {rest : List Oper} {o : Oper} {a : Act} {Q : Exit → Act → World → Prop} (w0 w1 : World)
    (hgd : o.guard = none) (s x : Operand) (ho : o.op = .call { callee := .builtin .append, args := #[s, x], argTypes := #[27, 27] })
    (A : Option Addr) (n c : Nat) (xss : List (List Int)) (A1 : Option Addr) (m c1 : Nat) (xs : List Int) (hM : MkO w0 w1 A n c xss) (hr : Own w1 0 2 A1 m c1 (ints xs)) (hn : n ≤ 1099511627776)
    (hs : a.eval s = .slice A n c) (hx : a.eval x = .slice (some ⟨w1.heap.size, 0, none⟩) 1 1)
    (h : ∀ A' c' w', MkO w0 w' A' (n + 1) c' (xss ++ [xs]) → w1.grownBy w' (Value.slice A n c).ownBlock → (∃ g, A' = some ⟨g, 0, none⟩ ∧ ((Value.slice A n c).ownBlock = some g ∨ w1.heap.size ≤ g)) → wpList Tryz.prog ops Q rest (a.put o.dst (.slice A' (n + 1) c')) w') :
    wpList Tryz.prog ops Q (o :: rest) a (w1.alloc (.cells #[.slice A1 m c1] 24)) := by
  obtain ⟨rows, hm, hl, hrow⟩ := hM
  have hml : xs.length = m := by have := hr.len; rwa [ints_length] at this
  subst hml
  refine wpList_app1 w0 w1 27 24 (.slice none 0 0) 24 Tryz.underlying27 info_s rfl (by omega) hgd s x ho A n c rows (.slice A1 xs.length c1) hm hn rfl hs hx ?_
  intro A' c' w' hM' hg hat
  refine h A' c' w' ⟨_, hM', by simp [hl], fun k hk => ?_⟩ hg hat
  by_cases hlt : k < xss.length
  · obtain ⟨A2, c2, e, ho2⟩ := hrow k hlt
    simp only [List.getElem_append_left hlt]
    exact ⟨A2, c2, by rw [List.getElem?_append_left (by omega)]; exact e, ho2.grown hg (ho2.ne hm.2 (by decide))⟩
  · have hk' : k = xss.length := by simp at hk; omega
    subst hk'
    simp only [List.getElem_append_right (Nat.le_refl _), Nat.sub_self, List.getElem_cons_zero]
    exact ⟨A1, c1, by rw [List.getElem?_append_right (by omega), hl, Nat.sub_self]; rfl, hr.grown hg (hr.ne hm.2 (by decide))⟩
end Go.Proofs.YtdbibmilicjllaaGreat
namespace Go.Proofs.YtdbibmilicjllaaGreat
theorem zeroL_iff (xs : List Int) : zeroL xs = true ↔ ∀ y ∈ xs, y = 0 := by
  unfold zeroL
  rw [beq_iff_eq]
  constructor
  · intro h y hy
    obtain ⟨i, hi, rfl⟩ := List.getElem_of_mem hy
    have := leadL_before xs i (by omega)
    rwa [getD_of_lt 0 hi] at this
  · intro h
    refine Classical.byContradiction fun hne => ?_
    have hlt : leadL xs < xs.length := by have := leadL_le xs; omega
    exact leadL_at xs hlt (h _ (getD_mem 0 hlt))
section
variable {p : Int} {n : Nat}
end
section
variable {P : Int} {sq xs v : List Int}
end
end Go.Proofs.YtdbibmilicjllaaGreat
namespace Go.Proofs.YtdbibmilicjllaaGreat
section
variable {P : Int} {sq : List Int}
theorem regB_at {sq : List Int} {x : Int} (h : regB sq = true) (hx : x ∈ sq) : x ≠ 0 := fun e => by
  subst e
  unfold regB at h
  simp only [Bool.not_eq_true', List.contains_eq_mem, decide_eq_false_iff_not] at h
  exact h hx
end
end Go.Proofs.YtdbibmilicjllaaGreat
namespace Go.Proofs.YtdbibmilicjllaaGreat
/-- Is it a square matrix with n rows of numbers? -/
def frB (P : Int) (n : Nat) (M : List (List Int)) : Bool := M.length == n && M.all fun r => r.length == n && nums P r
theorem frB_iff {P : Int} {n : Nat} {M : List (List Int)} : frB P n M = true ↔ M.length = n ∧ Tab P n M := by
  unfold frB
  rw [Bool.and_eq_true, beq_iff_eq, List.all_eq_true]
  refine and_congr Iff.rfl ⟨fun h x hx => ?_, fun h x hx => ?_⟩
  · have := h x hx
    rw [Bool.and_eq_true, beq_iff_eq] at this
    exact ⟨this.1, nums_numsL this.2⟩
  · obtain ⟨h1, h2⟩ := h x hx
    rw [Bool.and_eq_true, beq_iff_eq]
    exact ⟨h1, List.all_eq_true.2 fun y hy => by have := h2 y hy; simp [inR]; omega⟩
def isoB (P : Int) (sq : List Int) (M : List (List Int)) : Bool := frB P sq.length M && (decide (detL P M ≠ 0) && decide (∀ i, i < sq.length → ∀ k, k < sq.length → pairL P sq ((transL M).getD i []) ((transL M).getD k []) = if i = k then sq.getD i 0 else 0))
section
variable {p : Int} {sq : List Int} {M : List (List Int)}
/-- The squares as a matrix. -/
def Wm (hp : 0 < p) (sq : List Int) : Mt p sq.length := Mt.of hp fun i j => if i = j then sq.getD i 0 else 0
theorem Wm_at (hp : 0 < p) {i j : Nat} (hi : i < sq.length) (hj : j < sq.length) : (Wm hp sq).at i j % p = (if i = j then sq.getD i 0 else 0) % p := Mt.of_cg hp (fun i j => if i = j then sq.getD i 0 else 0) hi hj
theorem mul_Wm (hp : 0 < p) (x : Mt p sq.length) {i j : Nat} (hi : i < sq.length) (hj : j < sq.length) : (x * Wm hp sq).at i j % p = (x.at i j * sq.getD j 0) % p := by
  rw [Mt.mul_at _ _ hi hj]
  have h : (sumTo sq.length fun k => x.at i k * (Wm hp sq).at k j) % p = (sumTo sq.length fun k => x.at i k * (if k = j then sq.getD k 0 else 0)) % p := sumTo_mod p fun k hk => cg_mul rfl (Wm_at hp hk hj)
  rw [h, sumTo_one j hj fun k _ hne => by rw [if_neg hne, Int.mul_zero], if_pos rfl]
theorem trans_row (hp : 0 < p) (hT : Tab p sq.length M) (hl : M.length = sq.length) {i : Nat} (hi : i < sq.length) : ((transL M).getD i []).length = sq.length ∧ NumsL p ((transL M).getD i []) := by
  obtain ⟨t1, t2⟩ := trans_ok hp hT hl (by omega)
  exact t1.row (by omega)
theorem pairL_range (hp : 0 < p) (v u : List Int) : 0 ≤ pairL p sq v u ∧ pairL p sq v u < p := by
  unfold pairL dotL
  exact ⟨Int.emod_nonneg _ (by omega), Int.emod_lt_of_pos _ hp⟩
theorem pair_cols (hp : 0 < p) (hT : Tab p sq.length M) (hl : M.length = sq.length) {i k : Nat} (hi : i < sq.length) (hk : k < sq.length) :
    pairL p sq ((transL M).getD i []) ((transL M).getD k []) % p = ((Mt.mk' hp hT hl).tr * Wm hp sq * Mt.mk' hp hT hl).at i k % p := by
  rw [pairL_bil (trans_row hp hT hl hi).1, Mt.mul_at _ _ hi hk]
  unfold bil
  refine sumTo_mod p fun r hr => ?_
  rw [cg_mul ((mul_Wm hp _ hi hr).trans (cg_mul (Mt.tr_at _ hi hr) rfl)) rfl]
  have e1 : ((transL M).getD i []).getD r 0 = ent M r i := trans_at hT hl (by omega) hi hr
  have e2 : ((transL M).getD k []).getD r 0 = ent M r k := trans_at hT hl (by omega) hk hr
  rw [e1, e2]
  show _ = (ent M r i * sq.getD r 0 * ent M r k) % p
  congr 1; grind
theorem iso_iff (hp : 0 < p) (hs : NumsL p sq) (hT : Tab p sq.length M) (hl : M.length = sq.length) : isoB p sq M = true ↔ detL p M ≠ 0 ∧ (Mt.mk' hp hT hl).tr * Wm hp sq * Mt.mk' hp hT hl = Wm hp sq := by
  unfold isoB
  rw [frB_iff.2 ⟨hl, hT⟩, Bool.true_and, Bool.and_eq_true, decide_eq_true_iff, decide_eq_true_iff]
  refine and_congr Iff.rfl ⟨fun h => Mt.same fun i k hi hk => ?_, fun h i hi k hk => ?_⟩
  · rw [← pair_cols hp hT hl hi hk, h i hi k hk, Wm_at hp hi hk]
  · have e := pair_cols hp hT hl hi hk
    rw [h, Wm_at hp hi hk] at e
    refine cg_eq (pairL_range hp _ _) ?_ e
    split
    · exact hs.getD hp i
    · omega
end
end Go.Proofs.YtdbibmilicjllaaGreat
namespace Go.Proofs.YtdbibmilicjllaaGreat
section
variable {p : Int} {n : Nat}
/-- A unit matrix with another row at a place. -/
theorem Alt.row {hp : 0 < p} {F : List (List Int) → Cl p (zs n)} (A : Alt hp F) (h2 : 2 ≤ p) {k : Nat} (hk : k < n) {r : List Int} (hr : r.length = n) (hrn : NumsL p r) : F ((unitM n).set k r) = r.getD k 0 * F (unitM n) := by
  have hul : (unitM n).length = n := unitM_len n
  have hv : ∀ j, j ≤ n → F ((unitM n).set k (tab n fun i => if i < j ∧ i ≠ k then 0 else r.getD i 0)) = F ((unitM n).set k r) := by
    intro j
    induction j with
    | zero =>
      intro _
      congr 2
      refine list_ext_getD 0 (by rw [tab_len, hr]) fun i hi => ?_
      rw [tab_len] at hi
      rw [tab_getD hi, if_neg (by omega)]
    | succ j ih =>
      intro hj
      rw [← ih (by omega)]
      by_cases e : j = k
      · congr 2
        refine tab_congr fun i hi => ?_
        have : (i < j + 1 ∧ i ≠ k) ↔ (i < j ∧ i ≠ k) := by omega
        simp only [this]
      · obtain ⟨v, hv⟩ : ∃ v, v = tab n fun i => if i < j ∧ i ≠ k then 0 else r.getD i 0 := ⟨_, rfl⟩
        have hvl : v.length = n := by rw [hv, tab_len]
        have hvn : NumsL p v := by
          rw [hv]
          refine NumsL.tab fun i hi => ?_
          split
          · omega
          · exact hrn.getD (by omega) i
        rw [← hv]
        have h1 := A.plus ((unitM n).set k v) ((unitM_tab h2 n).set k ⟨hvl, hvn⟩) (by rw [List.length_set, hul]) k j (-(r.getD j 0)) hk (by omega) (Ne.symm e)
        rw [← h1, List.set_set, getD_set, if_pos ⟨rfl, by omega⟩, getD_set, if_neg (by omega), unitM_getD (show j < n by omega)]
        congr 2
        refine list_ext_getD 0 (by rw [tab_len, plusL_len, hvl]) fun i hi => ?_
        rw [tab_len] at hi
        rw [tab_getD hi, plusL_getD _ _ (by omega), hv, tab_getD hi, unitRow_ent (by omega) hi]
        have hb := hrn.getD (p := p) (by omega) i
        by_cases hij : j = i
        · subst hij
          rw [if_pos ⟨by omega, e⟩, if_neg (by omega), if_pos rfl, show r.getD j 0 + -(r.getD j 0) * 1 = 0 by omega, Int.zero_emod]
        · rw [if_neg hij, Int.mul_zero, Int.add_zero]
          by_cases h9 : i < j ∧ i ≠ k
          · rw [if_pos ⟨by omega, h9.2⟩, if_pos h9, Int.zero_emod]
          · rw [if_neg (by omega), if_neg h9, Int.emod_eq_of_lt hb.1 hb.2]
  have h1 := hv n (Nat.le_refl n)
  have e : (tab n fun i => if i < n ∧ i ≠ k then 0 else r.getD i 0) = scaleL p ((unitM n).getD k []) (r.getD k 0) := by
    rw [unitM_getD hk]
    refine list_ext_getD 0 (by rw [tab_len, scaleL_len, unitRow_len]) fun i hi => ?_
    rw [tab_len] at hi
    rw [tab_getD hi, scaleL_getD _ (by rw [unitRow_len]; exact hi), unitRow_ent hk hi]
    have hb := hrn.getD (p := p) (by omega) k
    by_cases hik : k = i
    · subst hik
      rw [if_neg (by omega), if_pos rfl, Int.one_mul, Int.emod_eq_of_lt hb.1 hb.2]
    · rw [if_pos ⟨hi, fun e => hik e.symm⟩, if_neg hik, Int.zero_mul, Int.zero_emod]
  rw [← h1, e, A.scale _ (unitM_tab h2 n) hul k _ hk]
theorem det_row (hP : isP p = true) {k : Nat} (hk : k < n) {r : List Int} (hr : r.length = n) (hrn : NumsL p r) : detL p ((unitM n).set k r) = r.getD k 0 := by
  have h3 := isP_ge hP
  have hp : 0 < p := by omega
  have hT : Tab p n ((unitM n).set k r) := (unitM_tab (by omega) n).set k ⟨hr, hrn⟩
  have hl : ((unitM n).set k r).length = n := by rw [List.length_set, unitM_len]
  have h1 := (Alt.prod hp hP).row (by omega) hk hr hrn
  have h2 : (Cl.prod hp ((unitM n).set k r) : Cl p (zs n)) = detL p ((unitM n).set k r) * Cl.prod hp (unitM n) := prod_det hp hP hT hl
  have h4 := det_uniq hp (by omega) (h2.symm.trans h1)
  have b1 := detL_small (p := p) (by omega) ((unitM n).set k r)
  have b2 := hrn.getD hp k
  rwa [Int.emod_eq_of_lt b1.1 b1.2, Int.emod_eq_of_lt b2.1 b2.2] at h4
end
section
variable {p : Int} {sq : List Int}
/-- A column. -/
def Mt.col {n : Nat} (x : Mt p n) (i : Nat) : List Int := (transL x.l).getD i []
theorem Mt.col_ok {n : Nat} (x : Mt p n) {i : Nat} (hi : i < n) : (x.col i).length = n ∧ NumsL p (x.col i) := by
  obtain ⟨h1, h2⟩ := trans_ok x.pos x.tab x.len (by omega)
  exact h1.row (by omega)
theorem Mt.col_at {n : Nat} (x : Mt p n) {i j : Nat} (hi : i < n) (hj : j < n) : (x.col i).getD j 0 = x.at j i := trans_at x.tab x.len (by omega) hi hj
theorem Mt.ext_col {n : Nat} {x y : Mt p n} (h : ∀ i, i < n → x.col i = y.col i) : x = y := Mt.same fun i j hi hj => by
  rw [← Mt.col_at x hj hi, ← Mt.col_at y hj hi, h j hj]
theorem Mt.one_col {n : Nat} (hp : 2 ≤ p) {i : Nat} (hi : i < n) : (Mt.one (by omega) : Mt p n).col i = unitRow n i := by
  have hok := Mt.col_ok (Mt.one (p := p) (n := n) (by omega)) hi
  refine list_ext_getD 0 (by rw [hok.1, unitRow_len]) fun j hj => ?_
  rw [hok.1] at hj
  rw [Mt.col_at _ hi hj, unitRow_ent hi hj]
  refine cg_eq (Mt.small _ _ _) ?_ ?_
  · split <;> omega
  · rw [Mt.one_at (by omega) hj hi]
    by_cases h : i = j
    · subst h; rfl
    · rw [if_neg h, if_neg fun e => h e.symm]
/-- The matrix of a reflection. -/
def Mt.refl (hp : 2 ≤ p) (h0 : 0 < sq.length) (u : List Int) : Mt p sq.length := ⟨rmatL p sq sq.length u, rmatL_len hp sq h0 u, rmatL_tab hp sq sq.length u, by omega⟩
theorem Mt.refl_col (hp : 2 ≤ p) (h0 : 0 < sq.length) (u : List Int) {i : Nat} (hi : i < sq.length) : (Mt.refl hp h0 u).col i = rflL p sq u (unitRow sq.length i) := by
  have hok := Mt.col_ok (Mt.refl hp h0 u) hi
  refine list_ext_getD 0 (by rw [hok.1, rflL_len, unitRow_len]) fun j hj => ?_
  rw [hok.1] at hj
  rw [Mt.col_at _ hi hj]
  show ent (rmatL p sq sq.length u) j i = _
  unfold rmatL
  rw [trans_at (rcolsL_tab hp sq sq.length u) (rcolsL_len _ _ _ _) h0 hj hi]
  unfold ent rcolsL
  rw [tab_getD hi]
theorem bil_urow {u : List Int} {i : Nat} (hi : i < sq.length) : bil sq u (unitRow sq.length i) = u.getD i 0 * sq.getD i 0 := by
  unfold bil
  rw [sumTo_one i hi fun k hk hne => by rw [unitRow_ent hi hk, if_neg (fun e => hne e.symm), Int.mul_zero, Int.zero_mul], unitRow_ent hi hi, if_pos rfl, Int.mul_one]
theorem Mt.refl_at (hP : isP p = true) (hp : 2 ≤ p) (h0 : 0 < sq.length) {u : List Int} (hu : u.length = sq.length) {i j : Nat} (hi : i < sq.length) (hj : j < sq.length) :
    (Mt.refl hp h0 u).at i j % p = ((if i = j then 1 else 0) + -(2 * (u.getD j 0 * sq.getD j 0) * invF p (bil sq u u % p)) * u.getD i 0) % p := by
  rw [← Mt.col_at _ hj hi, Mt.refl_col hp h0 u hj, rflL_reflF hP hu]
  unfold reflF
  rw [plusL_getD _ _ (by rw [unitRow_len]; exact hi), cg_self, bil_urow hj, unitRow_ent hj hi]
  by_cases h : i = j
  · subst h; rfl
  · rw [if_neg h, if_neg fun e => h e.symm]
/-- A reflection's matrix times another one: its columns reflected. -/
theorem Mt.refl_mul (hP : isP p = true) (hp : 2 ≤ p) (h0 : 0 < sq.length) {u : List Int} (hu : u.length = sq.length) (x : Mt p sq.length) {j : Nat} (hj : j < sq.length) : (Mt.refl hp h0 u * x).col j = reflF p sq u (x.col j) := by
  have hok := Mt.col_ok (Mt.refl hp h0 u * x) hj
  have hox := Mt.col_ok x hj
  refine list_ext_getD 0 (by rw [hok.1, reflF_len, hox.1]) fun i hi => ?_
  rw [hok.1] at hi
  rw [Mt.col_at _ hj hi]
  have hn := reflF_nums (sq := sq) (show 0 < p by omega) u (x.col j)
  refine cg_eq (Mt.small _ _ _) (hn.getD (by omega) i) ?_
  unfold reflF
  rw [plusL_getD _ _ (by omega), cg_self, Mt.mul_at _ _ hi hj, Mt.col_at x hj hi]
  obtain ⟨v, hv⟩ : ∃ v, v = invF p (bil sq u u % p) := ⟨_, rfl⟩
  rw [← hv]
  have e1 : (sumTo sq.length fun q => (Mt.refl hp h0 u).at i q * x.at q j) % p = (sumTo sq.length fun q => (if i = q then x.at q j else 0) + (-(2 * v) * u.getD i 0) * (u.getD q 0 * (x.col j).getD q 0 * sq.getD q 0)) % p := sumTo_mod p fun q hq => by
    refine (cg_mul (Mt.refl_at hP hp h0 hu hi hq) rfl).trans ?_
    rw [← hv, Mt.col_at x hj hq]
    congr 1
    by_cases h : i = q
    · subst h; rw [if_pos rfl, if_pos rfl]; grind
    · rw [if_neg h, if_neg h]; grind
  rw [e1, sumTo_add, sumTo_mul, sumTo_one i hi fun q _ hne => by rw [if_neg fun e => hne e.symm], if_pos rfl]
  congr 1
  unfold bil
  obtain ⟨S, hS⟩ : ∃ S, S = sumTo sq.length fun i => u.getD i 0 * (x.col j).getD i 0 * sq.getD i 0 := ⟨_, rfl⟩
  rw [← hS]
  grind
/-- Twice the same reflection. -/
theorem Mt.refl_two (hP : isP p = true) (hp : 2 ≤ p) (h0 : 0 < sq.length) {u : List Int} (hu : u.length = sq.length) (hne : bil sq u u % p ≠ 0) : Mt.refl hp h0 u * Mt.refl hp h0 u = Mt.one (by omega) := Mt.ext_col fun i hi => by
  rw [Mt.refl_mul hP hp h0 hu _ hi, Mt.refl_col hp h0 u hi, rflL_reflF hP hu, refl_refl hP (unitRow_len _ _) (unitRow_nums hp _ _) hne, Mt.one_col hp hi]
/-- Its determinant. -/
theorem Mt.refl_det (hP : isP p = true) (hp : 2 ≤ p) (h0 : 0 < sq.length) {u : List Int} (hu : u.length = sq.length) (hun : NumsL p u) (hne : bil sq u u % p ≠ 0) : (Mt.refl hp h0 u).det % p = (-1) % p := by
  have h3 := isP_ge hP
  have hp0 : 0 < p := by omega
  -- a place with a number other than 0
  obtain ⟨k, hk, hk0⟩ : ∃ k, k < sq.length ∧ u.getD k 0 ≠ 0 := Classical.byContradiction fun h => hne (by
    unfold bil
    rw [sumTo_zero fun i hi => ?_, Int.zero_emod]
    have : u.getD i 0 = 0 := Classical.byContradiction fun h9 => h ⟨i, hi, h9⟩
    rw [this, Int.zero_mul, Int.zero_mul])
  obtain ⟨v, hv⟩ : ∃ v, v = invF p (bil sq u u % p) := ⟨_, rfl⟩
  obtain ⟨a, ha⟩ : ∃ a : Nat → Int, a = fun j => 2 * (u.getD j 0 * sq.getD j 0) * v := ⟨_, rfl⟩
  have hul : (unitM sq.length).length = sq.length := unitM_len _
  obtain ⟨b, hb⟩ : ∃ b, b = Go.Proofs.YtdbibmilicjllaaGreat.tab sq.length fun j => (if j = k then -1 else -a j) % p := ⟨_, rfl⟩
  have hbl : b.length = sq.length := by rw [hb, tab_len]
  have hbn : NumsL p b := by rw [hb]; exact NumsL.tab fun i _ => ⟨Int.emod_nonneg _ (by omega), Int.emod_lt_of_pos _ hp0⟩
  have hTA : Tab p sq.length ((unitM sq.length).set k u) := (unitM_tab hp _).set k ⟨hu, hun⟩
  have hTB : Tab p sq.length ((unitM sq.length).set k b) := (unitM_tab hp _).set k ⟨hbl, hbn⟩
  have hlA : ((unitM sq.length).set k u).length = sq.length := by rw [List.length_set, hul]
  have hlB : ((unitM sq.length).set k b).length = sq.length := by rw [List.length_set, hul]
  obtain ⟨X, hX⟩ : ∃ X : Mt p sq.length, X = Mt.mk' hp0 hTA hlA := ⟨_, rfl⟩
  obtain ⟨Y, hY⟩ : ∃ Y : Mt p sq.length, Y = Mt.mk' hp0 hTB hlB := ⟨_, rfl⟩
  have entS : ∀ (r : List Int) (i j : Nat), i < sq.length → j < sq.length → ent ((unitM sq.length).set k r) i j = if i = k then r.getD j 0 else if i = j then 1 else 0 := fun r i j hi hj => by
    unfold ent
    rw [getD_set]
    by_cases h : k = i
    · rw [if_pos ⟨h, by omega⟩, if_pos h.symm]
    · rw [if_neg fun e => h e.1, if_neg fun e => h e.symm, unitM_getD hi, unitRow_ent hi hj]
  have hXa : ∀ {i j : Nat}, i < sq.length → j < sq.length → X.tr.at i j % p = (if j = k then u.getD i 0 else if i = j then 1 else 0) % p := fun {i j} hi hj => by
    rw [Mt.tr_at _ hi hj, hX]
    show ent ((unitM sq.length).set k u) j i % p = _
    rw [entS u j i hj hi]
    by_cases h : j = k
    · rw [if_pos h, if_pos h]
    · rw [if_neg h, if_neg h]
      by_cases h9 : j = i
      · subst h9; rfl
      · rw [if_neg h9, if_neg fun e => h9 e.symm]
  have hYa : ∀ {i j : Nat}, i < sq.length → j < sq.length → Y.at i j % p = (if i = k then (if j = k then -1 else -a j) else if i = j then 1 else 0) % p := fun {i j} hi hj => by
    rw [hY]
    show ent ((unitM sq.length).set k b) i j % p = _
    rw [entS b i j hi hj]
    by_cases h : i = k
    · rw [if_pos h, if_pos h, hb, tab_getD hj, cg_self]
    · rw [if_neg h, if_neg h]
  have hRa : ∀ {i j : Nat}, i < sq.length → j < sq.length → (Mt.refl hp h0 u).at i j % p = ((if i = j then 1 else 0) + -(a j) * u.getD i 0) % p := fun {i j} hi hj => by
    rw [Mt.refl_at hP hp h0 hu hi hj, ha, hv]
  have hNv : bil sq u u * v % p = 1 % p := by rw [hv, inv_mod hP hne, Int.emod_eq_of_lt (by omega) (by omega)]
  have key : Mt.refl hp h0 u * X.tr = X.tr * Y := Mt.same fun i j hi hj => by
    rw [Mt.mul_at _ _ hi hj, Mt.mul_at _ _ hi hj]
    have e2 : (sumTo sq.length fun q => X.tr.at i q * Y.at q j) % p = (sumTo sq.length fun q => (if q = k then u.getD i 0 * (if j = k then -1 else -a j) else 0) + (if q = i then (if i = j ∧ i ≠ k then 1 else 0) else 0)) % p := sumTo_mod p fun q hq => by
      refine (cg_mul (hXa hi hq) (hYa hq hj)).trans ?_
      congr 1
      by_cases h1 : q = k
      · rw [if_pos h1, if_pos h1, if_pos h1]
        by_cases h2 : q = i
        · rw [if_pos h2, if_neg (show ¬ (i = j ∧ i ≠ k) from fun e => e.2 (h2.symm.trans h1)), Int.add_zero]
        · rw [if_neg h2, Int.add_zero]
      · rw [if_neg h1, if_neg h1, if_neg h1, Int.zero_add]
        by_cases h2 : q = i
        · subst h2
          rw [if_pos rfl, if_pos rfl, Int.one_mul]
          by_cases h4 : q = j
          · rw [if_pos h4, if_pos ⟨h4, h1⟩]
          · rw [if_neg h4, if_neg fun e => h4 e.1]
        · rw [if_neg h2, if_neg fun e => h2 e.symm, Int.zero_mul]
    rw [e2, sumTo_add, sumTo_one k hk fun q _ hq => if_neg hq, sumTo_one i hi fun q _ hq => if_neg hq, if_pos rfl, if_pos rfl]
    by_cases hjk : j = k
    · subst hjk
      rw [if_pos rfl, if_neg (by omega)]
      have e1 : (sumTo sq.length fun q => (Mt.refl hp h0 u).at i q * X.tr.at q j) % p = (sumTo sq.length fun q => (if i = q then u.getD q 0 else 0) + (-(2 * v) * u.getD i 0) * (u.getD q 0 * u.getD q 0 * sq.getD q 0)) % p := sumTo_mod p fun q hq => by
        refine (cg_mul (hRa hi hq) (hXa hq hj)).trans ?_
        rw [if_pos rfl, ha]
        congr 1
        by_cases h1 : i = q
        · rw [if_pos h1, if_pos h1]; grind
        · rw [if_neg h1, if_neg h1]; grind
      rw [e1, sumTo_add, sumTo_mul, sumTo_one i hi fun q _ hne => if_neg fun e => hne e.symm, if_pos rfl]
      obtain ⟨t, ht⟩ := cg_wit.1 hNv
      have hS : (sumTo sq.length fun q => u.getD q 0 * u.getD q 0 * sq.getD q 0) = bil sq u u := rfl
      rw [hS]
      obtain ⟨N, hN⟩ : ∃ N, N = bil sq u u := ⟨_, rfl⟩
      rw [← hN] at ht ⊢
      exact cg_wit.2 ⟨-2 * t * u.getD i 0, by grind⟩
    · rw [if_neg hjk]
      have e1 : (sumTo sq.length fun q => (Mt.refl hp h0 u).at i q * X.tr.at q j) % p = (sumTo sq.length fun q => if q = j then (if i = j then 1 else 0) + -(a j) * u.getD i 0 else 0) % p := sumTo_mod p fun q hq => by
        refine (cg_mul (hRa hi hq) (hXa hq hj)).trans ?_
        rw [if_neg hjk]
        congr 1
        by_cases h1 : q = j
        · subst h1; rw [if_pos rfl, if_pos rfl, Int.mul_one]
        · rw [if_neg h1, if_neg h1, Int.mul_zero]
      rw [e1, sumTo_one j hj fun q _ hne => if_neg hne, if_pos rfl]
      by_cases h1 : i = j
      · rw [if_pos h1, if_pos ⟨h1, by omega⟩]; congr 1; grind
      · rw [if_neg h1, if_neg fun e => h1 e.1]; congr 1; grind
  have hdX : X.tr.det % p = u.getD k 0 % p := by
    rw [Mt.det_tr hP h0, hX]
    show detL p ((unitM sq.length).set k u) % p = _
    rw [det_row hP hk hu hun]
  have hdY : Y.det % p = (-1) % p := by
    rw [hY]
    show detL p ((unitM sq.length).set k b) % p = _
    rw [det_row hP hk hbl hbn, hb, tab_getD hk, if_pos rfl, cg_self]
  have h1 := Mt.det_mul hP h0 (Mt.refl hp h0 u) X.tr
  rw [key, Mt.det_mul hP h0] at h1
  have h2 : (u.getD k 0 * -1) % p = ((Mt.refl hp h0 u).det * u.getD k 0) % p := (cg_mul hdX hdY).symm.trans (h1.trans (cg_mul rfl hdX))
  have hb := hun.getD hp0 k
  have hi := inv_one hP hb hk0
  obtain ⟨s, hs⟩ := cg_wit.1 hi
  obtain ⟨t, ht⟩ := cg_wit.1 h2
  obtain ⟨D, hD⟩ : ∃ D, D = (Mt.refl hp h0 u).det := ⟨_, rfl⟩
  obtain ⟨U, hU⟩ : ∃ U, U = u.getD k 0 := ⟨_, rfl⟩
  rw [← hU] at hs
  rw [← hU, ← hD] at ht
  rw [← hD]
  obtain ⟨I, hI⟩ : ∃ I, I = invF p U := ⟨_, rfl⟩
  rw [← hI] at hs
  exact cg_wit.2 ⟨-(t * I) - s * (D + 1), by grind⟩
end
end Go.Proofs.YtdbibmilicjllaaGreat
namespace Go.Proofs.YtdbibmilicjllaaGreat
open Go.RowKit
set_option maxHeartbeats 1600000 in
set_option maxRecDepth 8000 in
theorem matrixBy_any (f : FuncId) (p1 p2 : Addr) (G : Nat → List Int) (hcf : ∀ (args : Array Value) (w : World), (callFunc f args).run Tryz.prog w = .ok (.enter f args) w) (P : Int) (A : Option Addr) (n c : Nat) (w : World) (hp : 2 ≤ P) (hn : n ≤ 6) (h0 : 0 < n) (hG : ∀ k, k < n → (G k).length = n ∧ NumsL P (G k))
    (hof : ∀ (k : Nat) (w' : World) (Y : Option Addr) (cy : Nat), k < n → Below w.heap.size w w' → Rd w' Y n (ints (unitRow n k)) → n ≤ cy → Calls Tryz.prog f #[.slice Y n cy, .pointer (some p1), .pointer (some p2)] w' fun e w5 => ∃ A5 c5, e = .returned (.slice A5 n c5) ∧ MkI w' w5 A5 n c5 (G k)) :
    Calls Tryz.prog 161 #[.agg #[.int .i64 P, .slice A n c], .func (.func f) #[] #[.pointer (some p1), .pointer (some p2)]] w fun e w' => ∃ A' c', e = .returned (.slice A' n c') ∧ MkII w w' A' n c' (transL (tab n G)) := by
  have hB0 : Below w.heap.size w (w.alloc (.cells #[.int .i64 P, .slice A n c] 26)) := (Below.refl _ _).alloc (Nat.le_refl _) _
  have k0 : Blk (w.alloc (.cells #[.int .i64 P, .slice A n c] 26)) w.heap.size 26 #[.int .i64 P, .slice A n c] := Blk.new _ _ _
  have hB1 := hB0.alloc (by simp) (.cells #[] 24)
  have k1 := k0.alloc (.cells #[] 24)
  have hM1 : MkII w ((w.alloc (.cells #[.int .i64 P, .slice A n c] 26)).alloc (.cells #[] 24)) (some ⟨w.heap.size + 1, 0, none⟩) 0 0 [] := by
    have := MkII.empty hB0
    simpa using this
  clear k0
  obtain ⟨q0, q1⟩ := k1.two
  have HG := Lib.hid hG
  have HOF := Lib.hid hof
  clear hG hof
  go_enter Tryz.func161, Tryz.ntmps161
  go_wp2_with fail
  refine (dim_any _ _ _ _ _).mono ?_
  rintro e w2 ⟨rfl, hb2⟩
  have hM2 := hM1.below hb2
  have hB2 := hB1.trans (hb2.mono hB1.size)
  clear hM1 q0 q1 k1 hB0 hB1
  go_wp2_with fail
  refine (unit_any n _ (by omega)).mono ?_
  rintro e w3 ⟨U, cU, rfl, hU⟩
  have hM3 := hM2.below hU.b
  have hB3 := hB2.trans (hU.b.mono hB2.size)
  have hsz2 : w.heap.size + 1 < w2.heap.size := by have := hb2.size; simp at this; omega
  have hKp : Keeps w2 w3 w3 (.slice (some ⟨w.heap.size + 1, 0, none⟩) 0 0) := ⟨Nat.le_refl _, fun _ _ _ => rfl, fun gb e => .inl (lt_of_own e hsz2)⟩
  clear hM2 hB2 hb2 hsz2
  go_wp2
  go_loopw [5, 13] (fun out i wr => ∃ (k : Nat) (A' : Option Addr) (c' : Nat), k ≤ n ∧ i = .int .i64 k ∧ out = .slice A' k c' ∧ MkII w wr A' k c' (tab k G) ∧ Keeps w2 w3 wr (.slice A' k c')) (fun _ i _ => n - (intOf i).toNat)
  case atStart => exact ⟨0, _, _, by omega, rfl, rfl, by simpa [tab] using hM3, hKp⟩
  case round =>
    obtain ⟨k, A', c', hk, rfl, rfl, hM, hB4⟩ := hrel
    clear hM3 hKp
    by_cases hlt : k < n
    · obtain ⟨gu, ou, rfl, hxk, A1, c1, hcu, hru, hcc⟩ := (hU.keep hB4.2.1).at_ hlt
      have hrow := unitM_get n k hxk
      rw [hrow, unitRow_len] at hru hcu hcc
      have hcall := HOF.out k wr A1 c1 hlt hM.b hru hcc
      have HM := Lib.hid hM
      have HB4 := Lib.hid hB4
      clear hM hru hrow hB4
      go_wp2_with fail
      refine hcall.mono ?_
      rintro e w5 ⟨A5, c5, rfl, hM5⟩
      clear hcall
      go_wp2_with (at_builtin; refine wpList_appRowG w wr _ rfl _ _ rfl A' k c' _ A5 n c5 _ HM.out hM5 (by omega) rfl ?_ ?_; (go_simp); intro A6 c6 w6 hM6 hg6 hat6)
      go_roundw
      case rel => exact ⟨k + 1, A6, c6, by omega, by go_num, rfl, by rw [tab_succ]; exact hM6, HB4.out.step hM5.b hg6 hat6⟩
      case measure => simp [intOf]; omega
    · obtain rfl : k = n := by omega
      go_wp2_with fail
      refine (transpose_any P A' k c' (tab k G) k _ h0 (by omega) (by omega) hM.rd (Tab.tab HG.out)).mono ?_
      rintro e w5 ⟨A5, c5, rfl, hM5⟩
      go_wp2
      go_ret
      exact ⟨_, _, rfl, hM5.after hM.b⟩
end Go.Proofs.YtdbibmilicjllaaGreat
namespace Go.Proofs.YtdbibmilicjllaaGreat
open Go.RowKit
/-- The columns of a versor's matrix, and the matrix. -/
def scolsL (P : Int) (sq : List Int) (n : Nat) (xs : List Int) : List (List Int) := tab n fun k => sandL P sq n xs (unitRow n k)
def vmatL (P : Int) (sq : List Int) (n : Nat) (xs : List Int) : List (List Int) := transL (scolsL P sq n xs)
theorem sandL_lens (P : Int) (sq : List Int) (n : Nat) (xs v : List Int) : (sandL P sq n xs v).length = n := by unfold sandL; rw [partL_len]
theorem scolsL_tab {P : Int} (hp : 2 ≤ P) (sq : List Int) (n : Nat) (xs : List Int) : Tab P n (scolsL P sq n xs) := Tab.tab fun _ _ => ⟨sandL_lens _ _ _ _ _, sandL_nums hp _ _ _ _⟩
theorem scolsL_len (P : Int) (sq : List Int) (n : Nat) (xs : List Int) : (scolsL P sq n xs).length = n := tab_len _ _
theorem vmatL_tab {P : Int} (hp : 2 ≤ P) (sq : List Int) (n : Nat) (xs : List Int) : Tab P n (vmatL P sq n xs) := by
  have := transL_tab (p := P) (by omega) (scolsL_tab hp sq n xs)
  rwa [scolsL_len] at this
theorem vmatL_len {P : Int} (hp : 2 ≤ P) (sq : List Int) {n : Nat} (h0 : 0 < n) (xs : List Int) : (vmatL P sq n xs).length = n := transL_len (scolsL_tab hp sq n xs) (by rw [scolsL_len]; exact h0)
/-- MatrixOfVersor. -/
def movR (P : Int) (sq xs : List Int) : List (List Int) × Int := if codeVr P sq xs = 0 then (vmatL P sq sq.length xs, 0) else ([], codeVr P sq xs)
set_option maxHeartbeats 1600000 in
set_option maxRecDepth 8000 in
theorem movCol_any (g gx : Nat) (P : Int) (A : Option Addr) (n c : Nat) (sq : List Int) (X : Option Addr) (cx : Nat) (xs : List Int) (Y : Option Addr) (cy : Nat) (v : List Int) (w : World) (hp : 2 ≤ P) (hp2 : P ≤ 13) (hn : n ≤ 6) (ha : Rd w A n (ints sq)) (hs : NumsL P sq) (hx : Rd w X (pw n) (ints xs)) (hxs : NumsL P xs) (hcx : pw n ≤ cx) (hy : Rd w Y n (ints v)) (hys : NumsL P v) (hcy : n ≤ cy) (kg : Blk w g 26 #[.int .i64 P, .slice A n c]) (kx : Blk w gx 24 #[.slice X (pw n) cx]) :
    Calls Tryz.prog 162 #[.slice Y n cy, .pointer (some ⟨g, 0, none⟩), .pointer (some ⟨gx, 0, none⟩)] w fun e w' => ∃ A' c', e = .returned (.slice A' n c') ∧ MkI w w' A' n c' (sandL P sq n xs v) := by
  obtain ⟨q0, q1⟩ := kg.two
  have qx := kx.cell 0
  simp only [zA, zC] at qx
  have hcall := sandwich_any P A n c sq X cx xs Y cy v w hp hp2 hn ha hs hx hxs hcx hy hys hcy
  go_enter Tryz.func162, Tryz.ntmps162
  go_wp2_with fail
  refine hcall.mono ?_
  rintro e w2 ⟨A2, c2, rfl, hM⟩
  go_wp2
  go_ret
  exact ⟨_, _, rfl, hM⟩
set_option maxHeartbeats 1600000 in
set_option maxRecDepth 8000 in
theorem MatrixOfVersor_any (P : Int) (A : Option Addr) (n c : Nat) (sq : List Int) (X : Option Addr) (m cx : Nat) (xs : List Int) (w : World) (hn : n ≤ 1048576) (hm : m ≤ 1048576) (ha : Rd w A n (ints sq)) (hx : Rd w X m (ints xs)) (hcx : m ≤ cx) :
    Calls Tryz.prog 30 #[.agg #[.int .i64 P, .slice A n c], .slice X m cx] w fun e w' => ∃ (A' : Option Addr) (k c' : Nat), e = .returned (.tuple #[.slice A' k c', .int .i64 (movR P sq xs).2]) ∧ MkII w w' A' k c' (movR P sq xs).1 := by
  have hB0 : Below w.heap.size w (w.alloc (.cells #[.int .i64 P, .slice A n c] 26)) := (Below.refl _ _).alloc (Nat.le_refl _) _
  have k0 : Blk (w.alloc (.cells #[.int .i64 P, .slice A n c] 26)) w.heap.size 26 #[.int .i64 P, .slice A n c] := Blk.new _ _ _
  have hBx : Below w.heap.size w ((w.alloc (.cells #[.int .i64 P, .slice A n c] 26)).alloc (.cells #[.slice X m cx] 24)) := hB0.alloc (by simp) _
  have hB1 : Below w.heap.size w (((w.alloc (.cells #[.int .i64 P, .slice A n c] 26)).alloc (.cells #[.slice X m cx] 24)).alloc (.cells #[.slice X m cx] 24)) := hBx.alloc (by simp; omega) _
  have k1 : Blk (((w.alloc (.cells #[.int .i64 P, .slice A n c] 26)).alloc (.cells #[.slice X m cx] 24)).alloc (.cells #[.slice X m cx] 24)) w.heap.size 26 #[.int .i64 P, .slice A n c] := (k0.alloc _).alloc _
  have kx : Blk (((w.alloc (.cells #[.int .i64 P, .slice A n c] 26)).alloc (.cells #[.slice X m cx] 24)).alloc (.cells #[.slice X m cx] 24)) (w.heap.size + 1) 24 #[.slice X m cx] := Blk.alloc (Blk.newAt3 (by simp)) _
  have hreg := checkVersors_any P A (some ⟨w.heap.size + 2, 0, none⟩) none n c 1 1 0 0 sq [xs] [] (((w.alloc (.cells #[.int .i64 P, .slice A n c] 26)).alloc (.cells #[.slice X m cx] 24)).alloc (.cells #[.slice X m cx] 24)) hn (by omega) (by omega) (ha.below hB1) (rdII_one' (Blk.newAt3 (by simp)) (hx.below hB1) hcx) (all_one (by rw [hx.lenI]; exact hm)) (RdII.nil _ _) (by simp)
  rw [codeVs_nil] at hreg
  obtain ⟨r, hr⟩ : ∃ r, r = codeR P sq [xs] := ⟨_, rfl⟩
  have HR := Lib.hid hr
  by_cases hr0 : r = 0
  · have hcM := (codeR_zero (hr.symm.trans hr0)).1
    obtain ⟨HP, hp, hp2, hd1, hd2, hs, hms⟩ := codeM_spec hcM
    have hxl := hx.lenI
    have hsl := ha.lenI
    obtain ⟨hl1, hxs⟩ := hms xs (by simp)
    have hn6 : n ≤ 6 := by omega
    have hn0 : 0 < n := by omega
    have hmn : m = pw n := by rw [← hxl, hl1, hsl]
    subst hmn
    have HSL := Lib.hid hsl
    have HS := Lib.hid hs
    have HXS := Lib.hid hxs
    clear hxl hsl hms hl1 hd1 hd2 hcM hs hxs
    have HR0 := Lib.hid hr0
    have b0 := code_eq hr0
    clear hr hr0
    cases hv : versB P sq n xs
    all_goals
      have hcv := codeVr_eq (P := P) (sq := sq) (xs := xs) (by rw [← HR.out]; exact HR0.out)
      rw [HSL.out, hv] at hcv
      have HCV := Lib.hid hcv
      have HV := Lib.hid hv
      clear hv hcv
      go_enter Tryz.func30, Tryz.ntmps30
      go_wp2_with fail
      refine hreg.mono ?_
      rintro e w2 ⟨rfl, hb2⟩
      rw [← HR.out]
      have hB2 := hB1.trans (hb2.mono hB1.size)
      have k2 := k1.below hb2 k1.lt
      have kx2 := kx.below hb2 kx.lt
      obtain ⟨q0, q1⟩ := k2.two
      have qx := kx2.cell 0
      simp only [zA, zC] at qx
      clear k1 k0 kx hB0 hBx hB1 hb2
      go_wp2_with fail
      refine (isVersor_any P A n c sq X cx xs _ hp hp2 hn6 (ha.below hB2) HS.out (hx.below hB2) HXS.out hcx).mono ?_
      rintro e w3 ⟨rfl, hb3⟩
      rw [HV.out]
      have hB3 := hB2.trans (hb3.mono hB2.size)
      have k3 := k2.below hb3 k2.lt
      have kx3 := kx2.below hb3 kx2.lt
      clear q0 q1 qx
      obtain ⟨q0, q1⟩ := k3.two
      have HMV := Lib.hid (matrixBy_any 162 ⟨w.heap.size, 0, none⟩ ⟨w.heap.size + 1, 0, none⟩ (fun k => sandL P sq n xs (unitRow n k)) (fun _ _ => by rfl) P A n c w3 hp hn6 hn0 (fun _ _ => ⟨sandL_lens _ _ _ _ _, sandL_nums hp _ _ _ _⟩)
        (fun k w' Y cy _ hb hy hcy => movCol_any w.heap.size (w.heap.size + 1) P A n c sq X cx xs Y cy (unitRow n k) w' hp hp2 hn6 ((ha.below hB3).below hb) HS.out ((hx.below hB3).below hb) HXS.out hcx hy (unitRow_nums hp n k) hcy (k3.below hb k3.lt) (kx3.below hb kx3.lt)))
      go_wp2_with fail
    · go_ret2
      refine ⟨none, 0, 0, ret_tupS ?_, ?_⟩
      · unfold movR; rw [HCV.out]; rfl
      · unfold movR; rw [HCV.out]
        exact MkII.nil hB3
    · refine HMV.out.mono ?_
      rintro e w4 ⟨A4, c4, rfl, hM⟩
      go_wp2
      go_ret2
      exact ⟨_, _, _, ret_tupS (by unfold movR; rw [HCV.out]; rfl), by unfold movR; rw [HCV.out, HSL.out]; exact hM.after hB3⟩
  · have HR0 := Lib.hid hr0
    have b0 := code_ne hr0
    clear hr hr0
    go_enter Tryz.func30, Tryz.ntmps30
    go_wp2_with fail
    refine hreg.mono ?_
    rintro e w2 ⟨rfl, hb2⟩
    rw [← HR.out]
    have hB2 := hB1.trans (hb2.mono hB1.size)
    have k2 := k1.below hb2 k1.lt
    obtain ⟨q0, q1⟩ := k2.two
    clear k1 hB1 hb2
    go_wp2
    go_ret2
    have hv : codeVr P sq xs = r := by rw [codeVr_ne (by rw [← HR.out]; exact HR0.out), HR.out]
    refine ⟨none, 0, 0, ret_tupS ?_, ?_⟩
    · unfold movR; rw [hv, if_neg HR0.out]
    · unfold movR; rw [hv, if_neg HR0.out]
      exact MkII.nil hB2
end Go.Proofs.YtdbibmilicjllaaGreat
namespace Go.Proofs.YtdbibmilicjllaaGreat
/-- One step of the decomposition: the vectors so far, and what is left of the matrix. -/
def decW (n : Nat) (M : List (List Int)) (k : Nat) : List Int := (transL M).getD k []
def decS (p : Int) (sq : List Int) (n : Nat) (s : List (List Int) × List (List Int)) (k : Nat) : List (List Int) × List (List Int) :=
  if decW n s.2 k = unitRow n k then s
  else if pairL p sq (plusL p (decW n s.2 k) (unitRow n k) (-1)) (plusL p (decW n s.2 k) (unitRow n k) (-1)) = 0 then
    (s.1 ++ [plusL p (decW n s.2 k) (unitRow n k) 1, unitRow n k], timesM p (rmatL p sq n (unitRow n k)) (timesM p (rmatL p sq n (plusL p (decW n s.2 k) (unitRow n k) 1)) s.2))
  else (s.1 ++ [plusL p (decW n s.2 k) (unitRow n k) (-1)], timesM p (rmatL p sq n (plusL p (decW n s.2 k) (unitRow n k) (-1))) s.2)
def decTo (p : Int) (sq : List Int) (n : Nat) (M : List (List Int)) : Nat → List (List Int) × List (List Int)
  | 0 => ([], M)
  | k + 1 => decS p sq n (decTo p sq n M k) k
def decL (p : Int) (sq : List Int) (M : List (List Int)) : List (List Int) := (decTo p sq sq.length M sq.length).1
section
variable {p : Int} {sq : List Int}
/-- The product of the matrices of reflections. -/
def prodR (hp : 2 ≤ p) (h0 : 0 < sq.length) (L : List (List Int)) : Mt p sq.length := L.foldl (fun x u => x * Mt.refl hp h0 u) (Mt.one (by omega))
theorem prodR_from (hp : 2 ≤ p) (h0 : 0 < sq.length) (L : List (List Int)) : ∀ y : Mt p sq.length, L.foldl (fun x u => x * Mt.refl hp h0 u) y = y * prodR hp h0 L := by
  induction L with
  | nil => intro y; exact (Mt.mul_one _ y).symm
  | cons v vs ih =>
    intro y
    unfold prodR
    rw [List.foldl_cons, ih, List.foldl_cons, ih, Mt.one_mul, Mt.mul_assoc]
theorem prodR_cons (hp : 2 ≤ p) (h0 : 0 < sq.length) (v : List Int) (L : List (List Int)) : (prodR hp h0 (v :: L) : Mt p sq.length) = Mt.refl hp h0 v * prodR hp h0 L := by
  have := prodR_from hp h0 L (Mt.refl hp h0 v)
  rw [← this]
  unfold prodR
  rw [List.foldl_cons, Mt.one_mul]
theorem prodR_snoc (hp : 2 ≤ p) (h0 : 0 < sq.length) (L : List (List Int)) (v : List Int) : (prodR hp h0 (L ++ [v]) : Mt p sq.length) = prodR hp h0 L * Mt.refl hp h0 v := by
  unfold prodR
  rw [List.foldl_append]; rfl
theorem prodR_col (hP : isP p = true) (hp : 2 ≤ p) (h0 : 0 < sq.length) : ∀ (L : List (List Int)), Good p sq L → ∀ {i : Nat}, i < sq.length → (prodR hp h0 L).col i = refls p sq L (unitRow sq.length i)
  | [], _, i, hi => Mt.one_col hp hi
  | v :: L, hL, i, hi => by
    rw [prodR_cons, Mt.refl_mul hP hp h0 (hL v (List.mem_cons_self ..)).1 _ hi, prodR_col hP hp h0 L (fun u hu => hL u (List.mem_cons_of_mem _ hu)) hi]
    rfl
theorem prodR_det (hP : isP p = true) (hp : 2 ≤ p) (h0 : 0 < sq.length) : ∀ (L : List (List Int)), Good p sq L → (prodR hp h0 L).det % p = (if L.length % 2 = 0 then 1 else -1) % p
  | [], _ => by
    show (Mt.one (by omega) : Mt p sq.length).det % p = _
    rw [Mt.det_one hP]; rfl
  | v :: L, hL => by
    have hv := hL v (List.mem_cons_self ..)
    rw [prodR_cons, Mt.det_mul hP h0]
    refine (cg_mul (Mt.refl_det hP hp h0 hv.1 hv.2.1 hv.2.2) (prodR_det hP hp h0 L fun u hu => hL u (List.mem_cons_of_mem _ hu))).trans ?_
    rw [List.length_cons]
    congr 1
    by_cases h : L.length % 2 = 0
    · rw [if_pos h, if_neg (by omega)]; rfl
    · rw [if_neg h, if_pos (by omega)]; rfl
/-- Reflections keep products. -/
theorem refl_pair (hP : isP p = true) {v a b : List Int} (ha : a.length = sq.length) (hb : b.length = sq.length) (hv : bil sq v v % p ≠ 0) : bil sq (reflF p sq v a) (reflF p sq v b) % p = bil sq a b % p := by
  have h3 := (isP_ge hP).1
  have hi : bil sq v v * invF p (bil sq v v % p) % p = 1 % p := by rw [inv_mod hP hv, Int.emod_eq_of_lt (by omega) (by omega)]
  obtain ⟨i, hii⟩ : ∃ i, i = invF p (bil sq v v % p) := ⟨_, rfl⟩
  have e1 := bil_plus (p := p) (u := reflF p sq v b) (b := v) ha (-(2 * bil sq v a * invF p (bil sq v v % p)))
  have e2 := bil_plus (p := p) (u := a) (b := v) hb (-(2 * bil sq v b * invF p (bil sq v v % p)))
  have e3 := bil_plus (p := p) (u := v) (b := v) hb (-(2 * bil sq v b * invF p (bil sq v v % p)))
  change bil sq (reflF p sq v a) (reflF p sq v b) % p = _ at e1
  change bil sq (reflF p sq v b) a % p = _ at e2
  change bil sq (reflF p sq v b) v % p = _ at e3
  rw [bil_symm sq (reflF p sq v b), bil_symm sq b a] at e2
  rw [bil_symm sq (reflF p sq v b), bil_symm sq b v] at e3
  rw [← hii] at e1 e2 e3 hi
  obtain ⟨X, hX⟩ : ∃ X, X = bil sq (reflF p sq v a) (reflF p sq v b) := ⟨_, rfl⟩
  obtain ⟨Y, hY⟩ : ∃ Y, Y = bil sq a (reflF p sq v b) := ⟨_, rfl⟩
  obtain ⟨Z, hZ⟩ : ∃ Z, Z = bil sq v (reflF p sq v b) := ⟨_, rfl⟩
  obtain ⟨N, hN⟩ : ∃ N, N = bil sq v v := ⟨_, rfl⟩
  obtain ⟨Q, hQ⟩ : ∃ Q, Q = bil sq a b := ⟨_, rfl⟩
  obtain ⟨R, hR⟩ : ∃ R, R = bil sq v a := ⟨_, rfl⟩
  obtain ⟨S, hS⟩ : ∃ S, S = bil sq v b := ⟨_, rfl⟩
  rw [← hX, ← hY, ← hZ, ← hR] at e1
  rw [← hY, ← hQ, ← hR, ← hS] at e2
  rw [← hZ, ← hN, ← hS] at e3
  rw [← hX, ← hQ]
  rw [← hN] at hi
  obtain ⟨r1, e1⟩ := cg_wit.1 e1
  obtain ⟨r2, e2⟩ := cg_wit.1 e2
  obtain ⟨r3, e3⟩ := cg_wit.1 e3
  obtain ⟨r4, e4⟩ := cg_wit.1 hi
  clear hX hY hZ hN hQ hR hS hii hv
  exact cg_wit.2 ⟨r1 + r2 - 2 * R * i * r3 + 4 * R * S * i * r4, by grind⟩
/-- A reflection keeps what is orthogonal. -/
theorem refl_fix (hp : 0 < p) {v w : List Int} (hw : w.length = sq.length) (hwn : NumsL p w) (h : bil sq v w % p = 0) : reflF p sq v w = w := by
  unfold reflF
  have hc : (-(2 * bil sq v w * invF p (bil sq v v % p))) % p = 0 % p := by
    obtain ⟨k, hk⟩ := cg_wit.1 (h.trans (Int.zero_emod p).symm)
    exact cg_wit.2 ⟨-(2 * k * invF p (bil sq v v % p)), by rw [hk]; grind⟩
  rw [plusL_mod p w _ hc]
  refine list_ext_getD 0 (plusL_len _ _ _ _) fun i hi => ?_
  rw [plusL_len] at hi
  have hb := hwn.getD hp i
  rw [plusL_getD _ _ hi, Int.zero_mul, Int.add_zero, Int.emod_eq_of_lt hb.1 hb.2]
theorem plusL_swap {a b : List Int} (h : a.length = b.length) : plusL p a b 1 = plusL p b a 1 := by
  refine list_ext_getD 0 (by rw [plusL_len, plusL_len, h]) fun i hi => ?_
  rw [plusL_len] at hi
  rw [plusL_getD _ _ hi, plusL_getD _ _ (by omega), Int.one_mul, Int.one_mul, Int.add_comm]
/-- What holds ahead of each step. -/
structure Dec (hp : 2 ≤ p) (h0 : 0 < sq.length) (m : Mt p sq.length) (s : List (List Int) × List (List Int)) (k : Nat) : Prop where
  len : s.1.length ≤ 2 * k
  good : Good p sq s.1
  all : ∃ x : Mt p sq.length, s.2 = x.l ∧ prodR hp h0 s.1 * x = m ∧ (∀ i j, i < sq.length → j < sq.length → bil sq (x.col i) (x.col j) % p = (if i = j then sq.getD i 0 else 0) % p) ∧ ∀ j, j < k → x.col j = unitRow sq.length j
theorem Dec.step (hP : isP p = true) (hp : 2 ≤ p) (h0 : 0 < sq.length) (hs : NumsL p sq) (hr : regB sq = true) {m : Mt p sq.length} {s : List (List Int) × List (List Int)} {k : Nat} (hk : k < sq.length) (h : Dec hp h0 m s k) : Dec hp h0 m (decS p sq sq.length s k) (k + 1) := by
  obtain ⟨hlen, hgood, x, hx2, hx, hO, hF⟩ := h
  have hp0 : 0 < p := by omega
  have hw : decW sq.length s.2 k = x.col k := by unfold decW Mt.col; rw [hx2]
  obtain ⟨w, hwe⟩ : ∃ w, w = x.col k := ⟨_, rfl⟩
  obtain ⟨hwl, hwn⟩ := Mt.col_ok x hk
  rw [← hwe] at hwl hwn hw
  obtain ⟨e, hee⟩ : ∃ e, e = unitRow sq.length k := ⟨_, rfl⟩
  have hel : e.length = sq.length := by rw [hee, unitRow_len]
  have hen : NumsL p e := by rw [hee]; exact unitRow_nums hp _ _
  have hsk := hs.getD hp0 k
  have hsk0 : sq.getD k 0 ≠ 0 := regB_at hr (getD_mem 0 hk)
  have bee : bil sq e e = sq.getD k 0 := by rw [hee, bil_unit hk hk, if_pos rfl]
  have been : bil sq e e % p ≠ 0 := by rw [bee, Int.emod_eq_of_lt hsk.1 hsk.2]; exact hsk0
  have bww : bil sq w w % p = bil sq e e % p := by rw [bee, hwe, hO k k hk hk, if_pos rfl]
  have bwwn : bil sq w w % p ≠ 0 := by rw [bww]; exact been
  have bej : ∀ j, j < k → bil sq e (unitRow sq.length j) % p = 0 := fun j hj => by rw [hee, bil_unit hk (by omega), if_neg (by omega), Int.zero_emod]
  have bwj : ∀ j, j < k → bil sq w (unitRow sq.length j) % p = 0 := fun j hj => by
    have := hO k j hk (by omega)
    rw [if_neg (by omega), hF j hj, ← hwe] at this
    rw [this, Int.zero_emod]
  have bsj : ∀ t j, j < k → bil sq (plusL p w e t) (unitRow sq.length j) % p = 0 := fun t j hj => by
    rw [bil_plus hwl]
    refine (cg_add ((bwj j hj).trans (Int.zero_emod p).symm) (cg_mul rfl ((bej j hj).trans (Int.zero_emod p).symm))).trans ?_
    rw [Int.mul_zero, Int.add_zero, Int.zero_emod]
  -- one reflection ahead
  have one : ∀ (u : List Int), u.length = sq.length → bil sq u u % p ≠ 0 → (∀ j, j < k → bil sq u (unitRow sq.length j) % p = 0) → ∀ y : Mt p sq.length,
      (∀ i j, i < sq.length → j < sq.length → bil sq (y.col i) (y.col j) % p = (if i = j then sq.getD i 0 else 0) % p) → (∀ j, j < k → y.col j = unitRow sq.length j) →
      (∀ i j, i < sq.length → j < sq.length → bil sq ((Mt.refl hp h0 u * y).col i) ((Mt.refl hp h0 u * y).col j) % p = (if i = j then sq.getD i 0 else 0) % p) ∧ (∀ j, j < k → (Mt.refl hp h0 u * y).col j = unitRow sq.length j) := fun u hu hne hor y hOy hFy => by
    refine ⟨fun i j hi hj => ?_, fun j hj => ?_⟩
    · rw [Mt.refl_mul hP hp h0 hu y hi, Mt.refl_mul hP hp h0 hu y hj, refl_pair hP (Mt.col_ok y hi).1 (Mt.col_ok y hj).1 hne]
      exact hOy i j hi hj
    · rw [Mt.refl_mul hP hp h0 hu y (by omega), hFy j hj]
      exact refl_fix hp0 (unitRow_len _ _) (unitRow_nums hp _ _) (hor j hj)
  have hnew : ∀ (L : List (List Int)) (u : List Int), u.length = sq.length → bil sq u u % p ≠ 0 → ∀ y : Mt p sq.length, prodR hp h0 (L ++ [u]) * (Mt.refl hp h0 u * y) = prodR hp h0 L * y := fun L u hu hne y => by
    rw [prodR_snoc, Mt.mul_assoc, ← Mt.mul_assoc (Mt.refl hp h0 u), Mt.refl_two hP hp h0 hu hne, Mt.one_mul]
  have hl2 : ∀ (u : List Int) (y : Mt p sq.length), timesM p (rmatL p sq sq.length u) y.l = (Mt.refl hp h0 u * y).l := fun u y => (Mt.mul_l (Mt.refl hp h0 u) y h0).symm
  unfold decS
  rw [hw, ← hee]
  by_cases h1 : w = e
  · rw [if_pos h1]
    refine ⟨by omega, hgood, x, hx2, hx, hO, fun j hj => ?_⟩
    rcases Nat.lt_or_ge j k with h | h
    · exact hF j h
    · obtain rfl : j = k := by omega
      rw [← hwe, h1, hee]
  · rw [if_neg h1]
    have hdl : ∀ t, (plusL p w e t).length = sq.length := fun t => (plusL_len _ _ _ _).trans hwl
    have hdn : ∀ t, NumsL p (plusL p w e t) := fun t => plusL_nums hp0 _ _ _
    obtain ⟨d, hd⟩ : ∃ d, d = plusL p w e (-1) := ⟨_, rfl⟩
    rw [← hd]
    by_cases h2 : pairL p sq d d = 0
    · rw [if_pos h2]
      have hz : bil sq d d % p = 0 := (bil_same hP (by rw [hd]; exact hdl _)).1 h2
      have hz2 : bil sq (plusL p e w (-1)) (plusL p e w (-1)) % p = 0 := by
        have e1 := bil_plus2 (p := p) (v := e) hwl (-1)
        have e2 := bil_plus2 (p := p) (v := w) hel (-1)
        rw [← hd, hz, bil_symm sq e w] at e1
        rw [e2, e1]
        congr 1
        grind
      obtain ⟨hn3, hr3⟩ := (vb_refls hP hwl hwn hel hen bww bwwn).2 hz2
      obtain ⟨a, ha⟩ : ∃ a, a = plusL p w e 1 := ⟨_, rfl⟩
      have ha2 : plusL p e w 1 = a := by rw [ha]; exact plusL_swap (hel.trans hwl.symm)
      rw [ha2] at hn3 hr3
      rw [← ha]
      have hal : a.length = sq.length := by rw [ha]; exact hdl 1
      have han : NumsL p a := by rw [ha]; exact hdn 1
      obtain ⟨o1, f1⟩ := one a hal hn3 (by rw [ha]; exact bsj 1) x hO hF
      obtain ⟨o2, f2⟩ := one e hel been bej _ o1 f1
      refine ⟨by simp only [List.length_append, List.length_cons, List.length_nil]; omega, fun u hu => ?_, Mt.refl hp h0 e * (Mt.refl hp h0 a * x), ?_, ?_, o2, fun j hj => ?_⟩
      · rcases List.mem_append.1 hu with hu | hu
        · exact hgood u hu
        · rcases List.mem_cons.1 hu with rfl | hu
          · exact ⟨hal, han, hn3⟩
          · rw [List.mem_singleton.1 hu]; exact ⟨hel, hen, been⟩
      · show timesM p (rmatL p sq sq.length e) (timesM p (rmatL p sq sq.length a) s.2) = _
        rw [hx2, hl2, hl2]
      · show prodR hp h0 (s.1 ++ [a, e]) * _ = m
        rw [show s.1 ++ [a, e] = (s.1 ++ [a]) ++ [e] by simp, hnew _ e hel been, hnew _ a hal hn3, hx]
      · rcases Nat.lt_or_ge j k with h | h
        · exact f2 j h
        · obtain rfl : j = k := by omega
          rw [Mt.refl_mul hP hp h0 hel _ hk, Mt.refl_mul hP hp h0 hal _ hk, ← hwe, ← hee]
          exact hr3
    · rw [if_neg h2]
      have hdl0 : d.length = sq.length := by rw [hd]; exact hdl _
      have hz : bil sq d d % p ≠ 0 := fun h => h2 ((bil_same hP hdl0).2 h)
      have hr3 := (vb_refls hP hel hen hwl hwn bww.symm been).1 (by rw [← hd]; exact hz)
      rw [← hd] at hr3
      replace hr3 : reflF p sq d e = w := hr3
      obtain ⟨o1, f1⟩ := one d hdl0 hz (by rw [hd]; exact bsj (-1)) x hO hF
      refine ⟨by simp only [List.length_append, List.length_cons, List.length_nil]; omega, fun u hu => ?_, Mt.refl hp h0 d * x, ?_, ?_, o1, fun j hj => ?_⟩
      · rcases List.mem_append.1 hu with hu | hu
        · exact hgood u hu
        · rw [List.mem_singleton.1 hu]; exact ⟨hdl0, by rw [hd]; exact hdn _, hz⟩
      · show timesM p (rmatL p sq sq.length d) s.2 = _
        rw [hx2, hl2]
      · show prodR hp h0 (s.1 ++ [d]) * _ = m
        rw [hnew _ d hdl0 hz, hx]
      · rcases Nat.lt_or_ge j k with h | h
        · exact f1 j h
        · obtain rfl : j = k := by omega
          rw [Mt.refl_mul hP hp h0 hdl0 _ hk, ← hwe, ← hee, ← hr3]
          exact refl_refl hP hel hen hz
theorem isoB_dec {M : List (List Int)} (hP : isP p = true) (hp : 2 ≤ p) (h0 : 0 < sq.length) (hs : NumsL p sq) (hr : regB sq = true) (hT : Tab p sq.length M) (hl : M.length = sq.length) (hiso : isoB p sq M = true) : ∀ k, k ≤ sq.length → Dec hp h0 (Mt.mk' (by omega) hT hl) (decTo p sq sq.length M k) k
  | 0, _ => by
    refine ⟨by simp [decTo], fun u hu => by simp [decTo] at hu, Mt.mk' (by omega) hT hl, rfl, Mt.one_mul _ _, fun i j hi hj => ?_, fun j hj => absurd hj (by omega)⟩
    have h1 := (iso_iff (by omega) hs hT hl).1 hiso
    have h2 := pair_cols (by omega) hT hl hi hj
    rw [h1.2, Wm_at (by omega) hi hj] at h2
    rw [← h2, pairL_bil (trans_row (by omega) hT hl hi).1]
    rfl
  | k + 1, hk => (isoB_dec hP hp h0 hs hr hT hl hiso k (by omega)).step hP hp h0 hs hr (by omega)
/-- What the decomposition is. -/
theorem dec_all {M : List (List Int)} (hP : isP p = true) (h0 : 0 < sq.length) (hs : NumsL p sq) (hr : regB sq = true) (hT : Tab p sq.length M) (hl : M.length = sq.length) (hiso : isoB p sq M = true) :
    (decL p sq M).length ≤ 2 * sq.length ∧ Good p sq (decL p sq M) ∧ ∀ hp : 2 ≤ p, (prodR hp h0 (decL p sq M)).l = M := by
  have h3 := isP_ge hP
  obtain ⟨h1, h2, x, hx2, hx, -, hF⟩ := isoB_dec hP (by omega) h0 hs hr hT hl hiso sq.length (Nat.le_refl _)
  refine ⟨h1, h2, fun hp => ?_⟩
  have hone : x = Mt.one (by omega) := Mt.ext_col fun i hi => by rw [hF i hi, Mt.one_col (by omega) hi]
  rw [hone, Mt.mul_one] at hx
  show (prodR hp h0 (decTo p sq sq.length M sq.length).1).l = M
  rw [hx]; rfl
/-- The versor of the decomposition has the matrix. -/
theorem vmat_prod {L : List (List Int)} (hP : isP p = true) (hp : 2 ≤ p) (h0 : 0 < sq.length) (h6 : sq.length ≤ 6) (hL : Good p sq L) : vmatL p sq sq.length (versL p sq sq.length L) = (prodR hp h0 L).l := by
  have hT := vmatL_tab hp sq sq.length (versL p sq sq.length L)
  have hl := vmatL_len hp sq h0 (versL p sq sq.length L)
  have e : Mt.mk' (by omega) hT hl = prodR hp h0 L := Mt.ext_col fun i hi => by
    rw [prodR_col hP hp h0 L hL hi]
    have hS := scolsL_tab hp sq sq.length (versL p sq sq.length L)
    refine list_ext_getD 0 (by rw [(Mt.col_ok _ hi).1, refls_len, unitRow_len]) fun j hj => ?_
    rw [(Mt.col_ok _ hi).1] at hj
    rw [Mt.col_at _ hi hj]
    show ent (vmatL p sq sq.length (versL p sq sq.length L)) j i = _
    unfold vmatL
    rw [trans_at hS (scolsL_len _ _ _ _) h0 hj hi]
    unfold ent scolsL
    rw [tab_getD hi, sand_prod hP h6 L hL (unitRow_len _ _) (unitRow_nums hp _ _)]
  rw [← e]; rfl
/-- Proper exactly if they are evenly many. -/
theorem dec_det {M : List (List Int)} {L : List (List Int)} (hP : isP p = true) (hp : 2 ≤ p) (h0 : 0 < sq.length) (hL : Good p sq L) (h : (prodR hp h0 L).l = M) : detL p M = if L.length % 2 = 0 then 1 else p - 1 := by
  have h3 := isP_ge hP
  have h1 := prodR_det hP hp h0 L hL
  have h2 : (prodR hp h0 L).det = detL p M := by unfold Mt.det; rw [h]
  rw [h2] at h1
  have b := detL_small hp M
  rw [Int.emod_eq_of_lt b.1 b.2] at h1
  rw [h1]
  split
  · exact Int.emod_eq_of_lt (by omega) (by omega)
  · rw [show (-1 : Int) = p - 1 + p * (-1) by omega, Int.add_mul_emod_self_left, Int.emod_eq_of_lt (by omega) (by omega)]
end
end Go.Proofs.YtdbibmilicjllaaGreat
namespace Go.Proofs.YtdbibmilicjllaaGreat
open Go.RowKit
section
variable {P : Program} {ops : Array Oper} {Q : Exit → Act → World → Prop}
/-- Those whose values are good still when operation j is done (C: what each uses up). -/
def availR (R C : List (List Nat)) (m j : Nat) : List Nat := (R.getD j []).filter fun i => (List.range m).all fun k => !((C.getD k []).contains i) || k == j || (R.getD k []).contains j
/-- .. and at the end of the first m. -/
def endR (C : List (List Nat)) (m : Nat) : List Nat := (List.range m).filter fun i => (List.range m).all fun k => !((C.getD k []).contains i)
/-- What operation j may do to the world: add to it, or, where C has something at j, what Rel allows. -/
def StepR (C : List (List Nat)) (Rel : World → World → Prop) (j : Nat) (w w' : World) : Prop := if (C.getD j []).isEmpty then Below w.heap.size w w' else Rel w w'
theorem StepR.either {C : List (List Nat)} {Rel : World → World → Prop} {j : Nat} {w w' : World} {q : Prop} (h : StepR C Rel j w w') (h1 : Below w.heap.size w w' → q) (h2 : Rel w w' → q) : q := by
  unfold StepR at h
  split at h
  · exact h1 h
  · exact h2 h
theorem not_containsR {L : List Nat} {i : Nat} : (!(L.contains i)) = true ↔ i ∉ L := by
  rw [Bool.not_eq_true', ← Bool.not_eq_true, List.contains_iff_mem]
theorem availR_spec {R C : List (List Nat)} {m j i : Nat} : i ∈ availR R C m j ↔ i ∈ R.getD j [] ∧ ∀ k, k < m → i ∈ C.getD k [] → k = j ∨ j ∈ R.getD k [] := by
  unfold availR
  rw [List.mem_filter, List.all_eq_true]
  refine and_congr_right fun _ => ⟨fun h k hk hi => ?_, fun h k hk => ?_⟩
  · have h1 := h k (List.mem_range.2 hk)
    rw [Bool.or_eq_true, Bool.or_eq_true, not_containsR, beq_iff_eq, List.contains_iff_mem] at h1
    rcases h1 with (h1 | h1) | h1
    · exact absurd hi h1
    · exact .inl h1
    · exact .inr h1
  · rw [Bool.or_eq_true, Bool.or_eq_true, not_containsR, beq_iff_eq, List.contains_iff_mem]
    by_cases hi : i ∈ C.getD k []
    · rcases h k (List.mem_range.1 hk) hi with h1 | h1
      · exact .inl (.inr h1)
      · exact .inr h1
    · exact .inl (.inl hi)
theorem endR_spec {C : List (List Nat)} {m i : Nat} : i ∈ endR C m ↔ i < m ∧ ∀ k, k < m → i ∉ C.getD k [] := by
  unfold endR
  rw [List.mem_filter, List.all_eq_true, List.mem_range]
  exact and_congr_right fun _ => ⟨fun h k hk => not_containsR.1 (h k (List.mem_range.2 hk)), fun h k hk => not_containsR.2 (h k (List.mem_range.1 hk))⟩
/-- What is to be shown of operation j. -/
def ObR (P : Program) (ops : Array Oper) (S : World → Prop) (R C : List (List Nat)) (Rel : World → World → Prop) (m : Nat) (V : (Nat → Value) → List VP) (x : Nat → Value) (a0 : Act) (j : Nat) : Prop :=
  ∀ w, S w → (∀ i ∈ availR R C m j, ((V x).getD i VAny).p (x i) w) →
    wpOp P ops NoWay j (fun a' w' => ∃ v, (∀ d, dstOf ops j = some d → a'.tmps[d]? = some v) ∧ a'.defers = a0.defers ∧ ((V x).getD j VAny).p v w' ∧ StepR C Rel j w w') (putS ops x a0 j) w
theorem tasks_goR {m : Nat} {Rel : World → World → Prop} {R C : List (List Nat)} {V : (Nat → Value) → List VP} {S : World → Prop} {a0 : Act} (hok : tasksOk ops m a0.tmps.size R = true)
    (hdep : ∀ x x' j, (∀ i ∈ R.getD j [], x i = x' i) → (V x).getD j VAny = (V x').getD j VAny) (hweak : ∀ i, i < m → (C.getD i []).isEmpty = false → ∀ k, k < m → k ≠ i → i ∉ R.getD k [] → k ∉ C.getD i [] → ∀ x v w w', ((V x).getD k VAny).p v w → Rel w w' → ((V x).getD k VAny).p v w') (hSt : ∀ j w w', S w → StepR C Rel j w w' → S w') (hob : ∀ x j, j < m → ObR P ops S R C Rel m V x a0 j)
    (hend : ∀ x w', S w' → (∀ i ∈ endR C m, ((V x).getD i VAny).p (x i) w') → wpAny P .any ops Q (ops.size - m) (listedTo ops.size m) (putS ops x a0 m) w') :
    ∀ (c : Nat) (U : List Nat) (listed : Array Bool) (w : World) (x : Nat → Value), U.length = c → U.Nodup → (∀ i, i ∈ U ↔ i < m ∧ listed.getD i false = false) → listed.size = ops.size →
      (∀ i, m ≤ i → i < ops.size → listed.getD i false = false) → (∀ (j : Nat) (o : Oper), ops[j]? = some o → listed.getD j false = true → ∀ e ∈ o.after, Region.binds .any e = true → listed.getD e.on false = true) →
      S w → (∀ i, i < m → listed.getD i false = true → (∀ j, j < m → i ∈ C.getD j [] → listed.getD j false = false) → ((V x).getD i VAny).p (x i) w) → wpAny P .any ops Q (ops.size - m + c) listed (putD ops (fun i => listed.getD i false) x a0 m) w := by
  obtain ⟨hmn, hspec, htail⟩ := tasks_spec hok
  have hsel : Region.noSelect ops = true := by unfold tasksOk at hok; simp only [Bool.and_eq_true] at hok; exact hok.1.1
  intro c
  induction c with
  | zero =>
    intro U listed w x hU hnd hmem hsz hun hcl hS hV
    obtain rfl : U = [] := List.eq_nil_of_length_eq_zero hU
    have hall : ∀ i, i < m → listed.getD i false = true := fun i hi => by
      cases h : listed.getD i false
      · exact absurd ((hmem i).2 ⟨hi, h⟩) (by simp)
      · rfl
    have hl : listed = listedTo ops.size m := by
      apply Array.ext
      · simp [listedTo, hsz]
      · intro i h1 h2
        have e : listed.getD i false = listed[i] := by simp [Array.getD, h1]
        by_cases hi : i < m
        · have := hall i hi
          rw [e] at this
          simp [listedTo, this, hi]
        · have := hun i (by omega) (by omega)
          rw [e] at this
          simp [listedTo, this, hi]
    rw [Nat.add_zero, putD_congr (ops := ops) _ (fun _ => true) x x a0 m (fun i hi => ⟨hall i hi, fun _ => rfl⟩), hl]
    exact hend x w hS (fun i hi => hV i (endR_spec.1 hi).1 (hall i (endR_spec.1 hi).1) (fun j hj hc => absurd hc ((endR_spec.1 hi).2 j hj)))
  | succ c ih =>
    intro U listed w x hU hnd hmem hsz hun hcl hS hV
    have hne : U ≠ [] := fun e => by rw [e] at hU; simp at hU
    show (_ → _) ∧ _
    refine ⟨fun hr => ?_, fun i hi => ?_⟩
    · exfalso
      obtain ⟨i, hiU, hmin⟩ := min_mem U hne
      obtain ⟨him, hil⟩ := (hmem i).1 hiU
      have hlt : i < ops.size := by omega
      have : i ∈ Region.ready .any ops listed := mem_ready.2 ⟨by simpa [Array.getD, hsz, hlt] using hil, _, Array.getElem?_eq_getElem hlt, fun e he hb => by
        have hlti := (hspec i _ (Array.getElem?_eq_getElem hlt) him).1 e he hb
        cases h : listed.getD e.on false
        · have := hmin e.on ((hmem _).2 ⟨by omega, h⟩); omega
        · rfl⟩
      rw [hr] at this
      cases this
    · obtain ⟨hil, o, ho, hdeps⟩ := mem_ready.1 hi
      have hlt : i < ops.size := (Array.getElem?_eq_some_iff.1 ho).1
      have hil' : listed.getD i false = false := by simpa [Array.getD, hsz, hlt] using hil
      have hreach := listed_reach hok (fun i => listed.getD i false) hcl i o ho hdeps
      have him : i < m := by
        rcases Nat.lt_or_ge i m with h | h
        · exact h
        · exfalso
          obtain ⟨k, hk⟩ := List.exists_mem_of_ne_nil U hne
          obtain ⟨hkm, hkl⟩ := (hmem k).1 hk
          have := hreach k (htail i hlt h k hkm)
          rw [hkl] at this; cases this
      obtain ⟨_, ⟨d, hd, hdsz, hduniq⟩, hlook⟩ := hspec i o ho him
      have hdst : dstOf ops i = some d := by simp [dstOf, ho, hd]
      have hso : ∀ cs b, o.op ≠ .select cs b := fun cs b => Region.noSelect_spec hsel i o cs b ho
      -- the two frames agree on what o looks at
      have hagree : ∀ t ∈ o.looksAt ops, (putD ops (fun i => listed.getD i false) x a0 m).tmps[t]? = (putS ops x a0 i).tmps[t]? := fun t ht => by
        by_cases hex : ∃ k, k < m ∧ dstOf ops k = some t
        · obtain ⟨k, hkm, hkd⟩ := hex
          have hkR := hlook t ht k hkm hkd
          have hki := reach_lt hok i hlt k hkR
          have hkl := hreach k hkR
          have hks : k < ops.size := by omega
          obtain ⟨_, ⟨d', hd', hdsz', hu'⟩, _⟩ := hspec k _ (Array.getElem?_eq_getElem hks) hkm
          have htd : d' = t := by
            have : dstOf ops k = some d' := by simp [dstOf, Array.getElem?_eq_getElem hks, hd']
            rw [hkd] at this; injection this with this; exact this.symm
          rw [putD_at _ _ _ _ k hkd hkl (htd ▸ hdsz') m hkm (fun l hl hlk => htd ▸ hu' l hl hlk)]
          unfold putS
          rw [putD_at _ _ _ _ k hkd rfl (htd ▸ hdsz') i hki (fun l hl hlk => htd ▸ hu' l (by omega) hlk)]
        · rw [putD_other _ _ _ _ m (fun k hk hkd => absurd ⟨k, hk, hkd⟩ hex)]
          unfold putS
          rw [putD_other _ _ _ _ i (fun k hk hkd => absurd ⟨k, by omega, hkd⟩ hex)]
      have hob' := hob x i him w hS (fun k hk => by
        obtain ⟨hkR, hkC⟩ := availR_spec.1 hk
        refine hV k (by have := reach_lt hok i hlt k hkR; omega) (hreach k hkR) (fun j hj hc => ?_)
        rcases hkC j hj hc with rfl | hij
        · exact hil'
        · cases hjl : listed.getD j false
          · rfl
          · have hjs : j < ops.size := by omega
            have := listed_reach hok (fun i => listed.getD i false) hcl j _ (Array.getElem?_eq_getElem hjs) (hcl j _ (Array.getElem?_eq_getElem hjs) hjl) i hij
            rw [hil'] at this; cases this)
      have hsz1 := putD_size (ops := ops) (fun _ => true) x a0 i
      -- what comes behind
      have next : ∀ v w', ((V x).getD i VAny).p v w' → StepR C Rel i w w' → wpAny P .any ops Q (ops.size - m + c) (listed.setIfInBounds i true) ((putD ops (fun i => listed.getD i false) x a0 m).put (some d) v) w' := fun v w' hv hb => by
        have hput := putD_put (ops := ops) (fun k => listed.getD k false) (fun k => (listed.setIfInBounds i true).getD k false) x (fun k => if k = i then v else x k) a0 i hil'
          (by simp [hsz, hlt]) (fun k hk => ⟨by rw [getD_set_ne _ (Ne.symm hk)], by simp [hk]⟩) m him
          (fun d' k hk hki hd' => by rw [hdst] at hd'; injection hd' with hd'; exact hd' ▸ hduniq k hk hki)
        simp only [if_true] at hput
        rw [← hdst, hput]
        refine ih (U.erase i) _ _ _ ?_ (hnd.erase _) (fun k => ?_) (by simpa using hsz) (fun k h1 h2 => ?_) (fun j oj hoj hj e he hb' => ?_) (hSt i _ _ hS hb) (fun k hk hkl hcons => ?_)
        · rw [List.length_erase_of_mem ((hmem i).2 ⟨him, hil'⟩), hU]; rfl
        · rw [hnd.mem_erase_iff, hmem]
          by_cases hk : k = i
          · subst hk; simp [hsz, hlt]
          · rw [getD_set_ne _ (Ne.symm hk)]; simp [hk]
        · rw [getD_set_ne _ (by omega)]; exact hun k h1 h2
        · by_cases hji : j = i
          · subst hji
            rw [ho] at hoj; injection hoj with hoj; subst hoj
            exact getD_set_true (hdeps e he hb')
          · rw [getD_set_ne _ (Ne.symm hji)] at hj
            exact getD_set_true (hcl j oj hoj hj e he hb')
        · by_cases hki : k = i
          · subst hki
            rw [hdep _ x k (fun l hl => by have := reach_lt hok k hlt l hl; simp only [show l ≠ k by omega, if_false])]
            simpa using hv
          · rw [getD_set_ne _ (Ne.symm hki)] at hkl
            have hks : k < ops.size := by omega
            have hdk : (V fun l => if l = i then v else x l).getD k VAny = (V x).getD k VAny := hdep _ x k (fun l hl => by
              have hll := listed_reach hok (fun i => listed.getD i false) hcl k _ (Array.getElem?_eq_getElem hks) (hcl k _ (Array.getElem?_eq_getElem hks) hkl) l hl
              have hne : l ≠ i := fun e => by rw [e] at hll; rw [hil'] at hll; cases hll
              simp only [hne, if_false])
            simp only [hki, if_false]
            rw [hdk]
            have hb0 : ∀ j, j < m → k ∈ C.getD j [] → listed.getD j false = false := fun j hj hc => by
              have h1 := hcons j hj hc
              by_cases hji : j = i
              · rw [hji]; exact hil'
              · rwa [getD_set_ne _ (Ne.symm hji)] at h1
            have hkC : k ∉ C.getD i [] := fun hc => by
              have h1 := hcons i him hc
              simp [hsz, hlt] at h1
            have hiR : i ∉ R.getD k [] := fun hik => by
              have := listed_reach hok (fun i => listed.getD i false) hcl k _ (Array.getElem?_eq_getElem hks) (hcl k _ (Array.getElem?_eq_getElem hks) hkl) i hik
              rw [hil'] at this; cases this
            cases he : (C.getD i []).isEmpty
            · replace hb : Rel w w' := by unfold StepR at hb; rw [he] at hb; exact hb
              exact hweak i him he k hk hki hiR hkC x _ _ _ (hV k hk hkl hb0) hb
            · replace hb : Below w.heap.size w w' := by unfold StepR at hb; rw [he] at hb; exact hb
              exact ((V x).getD k VAny).st _ _ _ (hV k hk hkl hb0) hb
      unfold wpOp at hob' ⊢
      simp only [ho] at hob' ⊢
      rw [wanted_same hagree]
      split
      · rename_i hw
        rw [if_pos hw] at hob'
        rcases hob' with h | ⟨_, h⟩
        case inr => exact absurd h NoWay.lets
        refine .inl (Oper.wp_mono ?_ (wp_move (Q := Q) (d := d) (R := fun v w' => ((V x).getD i VAny).p v w' ∧ StepR C Rel i w w') (exec_same hso hagree) hd (by unfold putS; rw [hsz1.1]; exact hdsz)
          (Oper.wp_mono (fun a' w' ⟨v, h1, h2, h3, h4⟩ => ⟨v, h1 d hdst, by unfold putS; rw [hsz1.2]; exact h2, h3, h4⟩) h)))
        rintro a' w' ⟨v, rfl, hv, hb⟩
        exact next v w' hv hb
      · rename_i hw
        rw [if_neg hw] at hob'
        obtain ⟨v, h1, _, h3, h4⟩ := hob'
        have hvu : v = undef := by
          have := h1 d hdst
          rw [hd] at this
          simp [Act.put, putS, hsz1.1, hdsz] at this
          exact this.symm
        rw [hd]
        exact next undef w (hvu ▸ h3) h4
/-- **A region that draws its order**: each of its first m operations is shown once; what is left behind them goes on. -/
theorem wp_tasksR {id m : Nat} {Rel : World → World → Prop} (R C : List (List Nat)) (V : (Nat → Value) → List VP) (S : World → Prop) {a0 : Act} {w : World} (hm : P.follows .mixedOrders = true) (hok : tasksOk ops m a0.tmps.size R = true)
    (hdep : ∀ x x' j, (∀ i ∈ R.getD j [], x i = x' i) → (V x).getD j VAny = (V x').getD j VAny) (hweak : ∀ i, i < m → (C.getD i []).isEmpty = false → ∀ k, k < m → k ≠ i → i ∉ R.getD k [] → k ∉ C.getD i [] → ∀ x v w w', ((V x).getD k VAny).p v w → Rel w w' → ((V x).getD k VAny).p v w') (hS0 : S w.drew) (hSt : ∀ j w w', S w → StepR C Rel j w w' → S w') (hob : ∀ x j, j < m → ObR P ops S R C Rel m V x a0 j)
    (hend : ∀ x w', S w' → (∀ i ∈ endR C m, ((V x).getD i VAny).p (x i) w') → wpAny P .any ops Q (ops.size - m) (listedTo ops.size m) (putS ops x a0 m) w') : (Code.region id ops true).wp P Q a0 w := by
  have hmn := (tasks_spec hok).1
  have hf : ∀ i, (Array.replicate ops.size false).getD i false = false := fun i => by simp [Array.getD]
  have h := tasks_goR (Q := Q) hok hdep hweak hSt hob hend m (List.range m) (Array.replicate ops.size false) w.drew (fun _ => undef) (by simp) List.nodup_range (fun i => by rw [hf]; simp) (by simp) (fun i _ _ => hf i) (fun j o _ hj => by rw [hf] at hj; cases hj) hS0
    (fun i _ hi => by rw [hf] at hi; cases hi)
  refine wp_region_any hm ?_
  rw [show ops.size - m + m = ops.size by omega, putD_congr (ops := ops) _ (fun _ => false) _ (fun _ => undef) a0 m (fun i _ => ⟨hf i, fun _ => rfl⟩)] at h
  have e : ∀ n, putD ops (fun _ => false) (fun _ => undef) a0 n = a0 := fun n => by
    induction n with
    | zero => rfl
    | succ n ih => unfold putD; simpa using ih
  rw [e] at h
  exact h
/-- What is to be shown, operation by operation, in the text's order; the frame goes along. -/
def ObsR (P : Program) (ops : Array Oper) (Q : Exit → Act → World → Prop) (S : World → Prop) (R C : List (List Nat)) (Rel : World → World → Prop) (m : Nat) (V : (Nat → Value) → List VP) (x : Nat → Value) : Nat → Nat → Act → Prop
  | 0, j, a => ∀ w, S w → (∀ i ∈ endR C m, ((V x).getD i VAny).p (x i) w) → wpAny P .any ops Q (ops.size - j) (listedTo ops.size j) a w
  | r + 1, j, a => (∀ w, S w → (∀ i ∈ availR R C m j, ((V x).getD i VAny).p (x i) w) →
      wpOp P ops NoWay j (fun a' w' => ∃ v, (∀ d, dstOf ops j = some d → a'.tmps[d]? = some v) ∧ a'.defers = a.defers ∧ ((V x).getD j VAny).p v w' ∧ StepR C Rel j w w') a w) ∧
    ObsR P ops Q S R C Rel m V x r (j + 1) (a.put (dstOf ops j) (x j))
theorem obs_allR {S : World → Prop} {R C : List (List Nat)} {Rel : World → World → Prop} {m : Nat} {V : (Nat → Value) → List VP} {x : Nat → Value} {a0 : Act} : ∀ (r j : Nat), ObsR P ops Q S R C Rel m V x r j (putS ops x a0 j) →
    (∀ k, j ≤ k → k < j + r → ObR P ops S R C Rel m V x a0 k) ∧ ∀ w, S w → (∀ i ∈ endR C m, ((V x).getD i VAny).p (x i) w) → wpAny P .any ops Q (ops.size - (j + r)) (listedTo ops.size (j + r)) (putS ops x a0 (j + r)) w := by
  intro r
  induction r with
  | zero => intro j h; exact ⟨fun k h1 h2 => by omega, h⟩
  | succ r ih =>
    intro j h
    obtain ⟨h1, h2⟩ := h
    have h2' : ObsR P ops Q S R C Rel m V x r (j + 1) (putS ops x a0 (j + 1)) := h2
    obtain ⟨h3, h4⟩ := ih (j + 1) h2'
    refine ⟨fun k hk1 hk2 => ?_, by rw [show j + (r + 1) = j + 1 + r by omega]; exact h4⟩
    by_cases hk : k = j
    · subst hk
      intro w hS hV
      have h := h1 w hS hV
      rw [show (putS ops x a0 k).defers = a0.defers from (putD_size _ _ _ _).2] at h
      exact h
    · exact h3 k (by omega) (by omega)
theorem wp_obsR {id : Nat} (m : Nat) (Rel : World → World → Prop) (R C : List (List Nat)) (V : (Nat → Value) → List VP) (S : World → Prop) {a0 : Act} {w : World} (hm : P.follows .mixedOrders = true) (hok : tasksOk ops m a0.tmps.size R = true)
    (hdep : ∀ x x' j, (∀ i ∈ R.getD j [], x i = x' i) → (V x).getD j VAny = (V x').getD j VAny) (hweak : ∀ i, i < m → (C.getD i []).isEmpty = false → ∀ k, k < m → k ≠ i → i ∉ R.getD k [] → k ∉ C.getD i [] → ∀ x v w w', ((V x).getD k VAny).p v w → Rel w w' → ((V x).getD k VAny).p v w') (hSt : ∀ j w w', S w → StepR C Rel j w w' → S w') (hS0 : S w.drew) (h : ∀ x, ObsR P ops Q S R C Rel m V x m 0 a0) : (Code.region id ops true).wp P Q a0 w :=
  wp_tasksR (m := m) (Rel := Rel) R C V S hm hok hdep hweak hS0 hSt (fun x j hj => (obs_allR m 0 (h x)).1 j (by omega) (by omega)) (fun x w' hS hV => by
    have := (obs_allR m 0 (h x)).2 w' hS (hV)
    rwa [Nat.zero_add] at this)
theorem obs_stepR {S : World → Prop} {R C : List (List Nat)} {Rel : World → World → Prop} {m : Nat} {V : (Nat → Value) → List VP} {x : Nat → Value} {r j : Nat} {a : Act} {o : Oper} {d : Tmp} (ho : ops[j]? = some o) (hd : o.dst = some d)
    (h : ∀ w, S w → (∀ i ∈ availR R C m j, ((V x).getD i VAny).p (x i) w) → ∀ K : Act → World → Prop, Shut (∀ a' w' v, a'.tmps[d]? = some v → a'.defers = a.defers → ((V x).getD j VAny).p v w' → StepR C Rel j w w' → K a' w') →
      if Region.wanted o (yielded ops a.tmps) = true then Oper.wp P o a w K NoWay else K (a.put o.dst undef) w)
    (hr : ObsR P ops Q S R C Rel m V x r (j + 1) { a with tmps := a.tmps.setIfInBounds d (x j) }) : ObsR P ops Q S R C Rel m V x (r + 1) j a := by
  have hdst : dstOf ops j = some d := by simp [dstOf, ho, hd]
  refine ⟨fun w hS hV => wpOp_step ho (fun K hK => ?_), by rw [hdst]; exact hr⟩
  exact h w hS hV K (fun a' w' v h1 h2 h3 h4 => hK a' w' ⟨v, fun d' hd' => by rw [hdst] at hd'; injection hd' with hd'; exact hd' ▸ h1, h2, h3, h4⟩)
/-- Those that bear an append in place: their values are plain. -/
theorem weak_ofR {m : Nat} {Rel : World → World → Prop} {R C : List (List Nat)} {V : (Nat → Value) → List VP} (Wk : List Nat)
    (hchk : ((List.range m).all fun i => (C.getD i []).isEmpty || (List.range m).all fun k => k == i || (R.getD k []).contains i || (C.getD i []).contains k || Wk.contains k) = true)
    (hW : ∀ k ∈ Wk, ∀ x v w w', ((V x).getD k VAny).p v w → Rel w w' → ((V x).getD k VAny).p v w') :
    ∀ i, i < m → (C.getD i []).isEmpty = false → ∀ k, k < m → k ≠ i → i ∉ R.getD k [] → k ∉ C.getD i [] → ∀ x v w w', ((V x).getD k VAny).p v w → Rel w w' → ((V x).getD k VAny).p v w' := by
  intro i hi he k hk hne hR hC x v w w' hp hrel
  have h1 := List.all_eq_true.1 hchk i (List.mem_range.2 hi)
  rw [he, Bool.false_or] at h1
  have h2 := List.all_eq_true.1 h1 k (List.mem_range.2 hk)
  rw [Bool.or_eq_true, Bool.or_eq_true, Bool.or_eq_true, beq_iff_eq, List.contains_iff_mem, List.contains_iff_mem, List.contains_iff_mem] at h2
  rcases h2 with ((h2 | h2) | h2) | h2
  · exact absurd h2 hne
  · exact absurd h2 hR
  · exact absurd h2 hC
  · exact hW k h2 x v w w' hp hrel
end
end Go.Proofs.YtdbibmilicjllaaGreat

/-
  LawFnExpressions: part 9 of the texts that the proof needs. No condition.
-/
import Derived.Test.YticofgmmjecleaaGreatDoorP8
namespace Go.Proofs.YticofgmmjecleaaGreatDoor
open Go
def vT (P : Int) (n m : Nat) (k : Int) : List Int := scaleL P (bladeL n m) k
section
variable {P : Int} {sq : List Int} {n : Nat}
theorem blade_mu (hp : 2 ≤ P) {m : Nat} : MuL P n (bladeL n m) := ⟨bladeL_len n m, bladeL_nums hp n m⟩
theorem vT_getD {m i : Nat} (k : Int) (hi : i < pw n) : (vT P n m k).getD i 0 = (if i = m then k else 0) % P := by
  unfold vT
  rw [scaleL_getD k (by rw [bladeL_len]; exact hi)]
  unfold bladeL
  rw [getD_set, List.length_replicate]
  by_cases h : m = i
  · rw [if_pos ⟨h, by omega⟩, if_pos h.symm, Int.one_mul]
  · rw [if_neg (fun hh => h hh.1), if_neg (fun e => h e.symm), List.getD_eq_getElem?_getD, List.getElem?_replicate, if_pos hi]
    show (0 : Int) * k % P = 0 % P
    rw [Int.zero_mul]
theorem vT_len (m : Nat) (k : Int) : (vT P n m k).length = pw n := by unfold vT; rw [scaleL_len, bladeL_len]
theorem vT_mod {m : Nat} {j k : Int} (h : j % P = k % P) : vT P n m j = vT P n m k := by
  refine list_ext_getD 0 (by rw [vT_len, vT_len]) fun i hi => ?_
  rw [vT_len] at hi
  rw [vT_getD _ hi, vT_getD _ hi]
  split
  · exact h
  · rfl
theorem vT_one (hp : 2 ≤ P) (m : Nat) : vT P n m 1 = bladeL n m := by
  have hm := blade_mu (n := n) hp (m := m)
  refine list_ext_getD 0 (by rw [vT_len, hm.1]) fun i hi => ?_
  rw [vT_len] at hi
  unfold vT
  rw [scaleL_getD 1 (by rw [hm.1]; exact hi), Int.mul_one]
  have := hm.2.getD (show 0 < P by omega) i
  exact Int.emod_eq_of_lt this.1 this.2
theorem vT_neg (hp : 2 ≤ P) (m : Nat) (k : Int) : scaleL P (vT P n m k) (-1) = vT P n m (-k) := by
  refine list_ext_getD 0 (by rw [scaleL_len, vT_len, vT_len]) fun i hi => ?_
  rw [scaleL_len, vT_len] at hi
  rw [scaleL_getD (-1) (by rw [vT_len]; exact hi), vT_getD _ hi, vT_getD _ hi]
  rw [Int.mul_emod, Int.emod_emod_of_dvd _ (Int.dvd_refl P), ← Int.mul_emod]
  split
  · rw [Int.mul_neg, Int.mul_one]
  · rw [Int.zero_mul]
theorem vT_mul (hp : 2 ≤ P) (hn : sq.length = n) {m : Nat} (k : Int) : mulL P sq (vT P n 0 k) (bladeL n m) = vT P n m k := by
  subst hn
  have hp0 : 0 < P := by omega
  obtain ⟨X, hX⟩ : ∃ X : Cl P sq, X.l = bladeL sq.length m := ⟨⟨_, (blade_mu hp).1, (blade_mu hp).2, hp0⟩, rfl⟩
  have h1 : vT P sq.length 0 k = (k * Cl.one hp0 : Cl P sq).l := by rw [Cl.sm_l, Cl.one_l hp]; rfl
  rw [h1, ← hX, ← Cl.mul_l, Cl.sm_mul, Cl.one_mul, Cl.sm_l, hX]; rfl
/-- Nothing, or no digit, at the head. -/
def noDig (s : By) : Prop := ∀ c r, s = c :: r → decs.contains c = false
theorem sgnd_noDig {s : By} (h : sgnd s) : noDig s := fun c r e => by
  rw [e] at h
  rcases h with h | h <;> rw [h] <;> decide
theorem star_noDig (s : By) : noDig (42 :: s) := fun c r e => by injection e with e _; rw [← e]; decide
theorem ev_num {k : Nat} (hk : k ≤ 6) {s : By} (hs : noDig s) : evE P sq n .fac (UInt8.ofNat (48 + k) :: s) = some (vT P n 0 k, s) := by
  have hd := dig_val hk
  have hne : ∀ c : UInt8, c.toNat < 48 ∨ 57 < c.toNat → UInt8.ofNat (48 + k) ≠ c := fun c hc e => by rw [← e, hd] at hc; omega
  have hnx : ∀ cs : By, (∀ c ∈ cs, c.toNat < 48 ∨ 57 < c.toNat) → nxt cs (UInt8.ofNat (48 + k) :: s) = none := fun cs hcs => by
    show (if cs.contains _ then _ else none) = none
    rw [if_neg]
    intro h
    rw [List.contains_iff_mem] at h
    exact hne _ (hcs _ h) rfl
  obtain ⟨d1, d2⟩ := dig_stop (ds := [UInt8.ofNat (48 + k)]) (s := s) (fun b hb => by rw [List.mem_singleton.1 hb]; omega) hs
  have hnum : numF [UInt8.ofNat (48 + k)] = some k := by
    unfold numF
    rw [if_neg (by simp)]
    unfold spell
    simp only [List.foldl_cons, List.foldl_nil]
    rw [hd]; congr 1; omega
  have e1 : evE P sq n .atom (UInt8.ofNat (48 + k) :: s) = some (vT P n 0 k, s) := by
    rw [← ev_enough (f := need .atom (UInt8.ofNat (48 + k) :: s) + 1) (by omega)]
    unfold ev
    rw [hnx [40, 101] (by decide)]
    show (numF (digL ([UInt8.ofNat (48 + k)] ++ s))).map _ = _
    rw [d1, hnum]
    show some (scaleL P (bladeL n 0) ((k : Int) % P), resL ([UInt8.ofNat (48 + k)] ++ s)) = _
    rw [d2]
    have : scaleL P (bladeL n 0) ((k : Int) % P) = vT P n 0 k := vT_mod (Int.emod_emod_of_dvd _ (Int.dvd_refl P))
    rw [this]
  rw [← ev_enough (f := need .atom (UInt8.ofNat (48 + k) :: s) + 2) (by simp only [need, rk]; omega)]
  rw [show need .atom (UInt8.ofNat (48 + k) :: s) + 2 = (need .atom (UInt8.ofNat (48 + k) :: s) + 1) + 1 by omega]
  rw [ev, hnx [45, 126] (by decide)]
  show ev P sq n (need .atom (UInt8.ofNat (48 + k) :: s) + 1) .atom _ = _
  rw [ev_enough (by omega)]
  exact e1
theorem ev_name (hn : n ≤ 6) {m : Nat} (hm0 : m ≠ 0) (hm : m < pw n) {s : By} (hs : noDig s) : evE P sq n .fac (nameL n m ++ s) = some (bladeL n m, s) := by
  obtain ⟨ds, e, hds⟩ := name_form hn hm0
  have hmk : maskOf n (101 :: ds) = some m := by rw [← e]; exact mask_name hn hm
  rw [e, List.cons_append]
  obtain ⟨d1, d2⟩ := dig_stop hds hs
  have e1 : evE P sq n .atom (101 :: (ds ++ s)) = some (bladeL n m, s) := by
    rw [← ev_enough (f := need .atom (101 :: (ds ++ s)) + 1) (by omega)]
    unfold ev
    have : nxt [40, 101] (101 :: (ds ++ s)) = some (101, ds ++ s) := rfl
    rw [this]
    dsimp only
    rw [if_neg (by decide), d1, d2, hmk]; rfl
  rw [← ev_enough (f := need .atom (101 :: (ds ++ s)) + 2) (by simp only [need, rk]; omega)]
  rw [show need .atom (101 :: (ds ++ s)) + 2 = (need .atom (101 :: (ds ++ s)) + 1) + 1 by omega]
  rw [ev]
  have : nxt [45, 126] (101 :: (ds ++ s)) = none := rfl
  rw [this]
  show ev P sq n (need .atom (101 :: (ds ++ s)) + 1) .atom _ = _
  rw [ev_enough (by omega)]
  exact e1
theorem sgnd_prod {s : By} (h : sgnd s) : nxt [42, 94, 46] s = none := by
  cases s with
  | nil => rfl
  | cons c r => rcases h with h | h <;> rw [h] <;> rfl
/-- A term's body, and with a '-' ahead. -/
theorem prod_body (hp : 2 ≤ P) (hl : sq.length = n) (hn : n ≤ 6) {m : Nat} (hm : m < pw n) {k : Nat} (hk : k ≤ 6) {s : By} (hs : sgnd s) : evE P sq n .prod (bodS n m k ++ s) = some (vT P n m k, s) := by
  unfold bodS
  by_cases hm0 : m = 0
  · rw [if_pos hm0, hm0]
    show evE P sq n .prod (UInt8.ofNat (48 + k) :: s) = _
    rw [evE_prod (ev_num hk (sgnd_noDig hs)), evE_endP (sgnd_prod hs)]
  · rw [if_neg hm0]
    by_cases hk1 : k = 1
    · rw [if_pos hk1, hk1, evE_prod (ev_name hn hm0 hm (sgnd_noDig hs)), evE_endP (sgnd_prod hs)]
      rw [← vT_one hp m]; rfl
    · rw [if_neg hk1]
      show evE P sq n .prod (UInt8.ofNat (48 + k) :: 42 :: (nameL n m ++ s)) = _
      rw [evE_prod (ev_num hk (star_noDig _)), evE_mul (by decide) (ev_name hn hm0 hm (sgnd_noDig hs)), evE_endP (sgnd_prod hs)]
      show some (mulL P sq (vT P n 0 k) (bladeL n m), s) = _
      rw [vT_mul hp hl]
theorem prod_neg (hp : 2 ≤ P) (hl : sq.length = n) (hn : n ≤ 6) {m : Nat} (hm : m < pw n) {k : Nat} (hk : k ≤ 6) {s : By} (hs : sgnd s) : evE P sq n .prod (45 :: (bodS n m k ++ s)) = some (vT P n m (-(k : Int)), s) := by
  unfold bodS
  by_cases hm0 : m = 0
  · rw [if_pos hm0, hm0]
    show evE P sq n .prod (45 :: UInt8.ofNat (48 + k) :: s) = _
    rw [evE_prod (evE_sign (by decide) (ev_num hk (sgnd_noDig hs))), evE_endP (sgnd_prod hs), if_pos rfl, vT_neg hp]
  · rw [if_neg hm0]
    by_cases hk1 : k = 1
    · rw [if_pos hk1, hk1, evE_prod (evE_sign (by decide) (ev_name hn hm0 hm (sgnd_noDig hs))), evE_endP (sgnd_prod hs), if_pos rfl]
      rw [← vT_one hp m, vT_neg hp]; rfl
    · rw [if_neg hk1]
      show evE P sq n .prod (45 :: UInt8.ofNat (48 + k) :: 42 :: (nameL n m ++ s)) = _
      rw [evE_prod (evE_sign (by decide) (ev_num hk (star_noDig _))), evE_mul (by decide) (ev_name hn hm0 hm (sgnd_noDig hs)), evE_endP (sgnd_prod hs), if_pos rfl, vT_neg hp]
      show some (mulL P sq (vT P n 0 (-(k : Int))) (bladeL n m), s) = _
      rw [vT_mul hp hl]
/-- One more place. -/
theorem firstK_zero {y : List Int} {k : Nat} (h : y.getD k 0 = 0) : firstK n y (k + 1) = firstK n y k := by
  unfold firstK
  refine tab_congr fun i _ => ?_
  by_cases h2 : i < k
  · rw [if_pos (by omega), if_pos h2]
  · rw [if_neg h2]
    by_cases h3 : i = k
    · rw [h3, if_pos (by omega), h]
    · rw [if_neg (by omega)]
theorem firstK_next (hp : 2 ≤ P) {y : List Int} (hy : MuL P n y) {k : Nat} {j : Int} (hj : j % P = y.getD k 0) : plusL P (firstK n y k) (vT P n k j) 1 = firstK n y (k + 1) := by
  have hl : (firstK n y k).length = pw n := by unfold firstK; rw [tab_len]
  refine list_ext_getD 0 (by rw [plusL_len, hl]; unfold firstK; rw [tab_len]) fun i hi => ?_
  rw [plusL_len, hl] at hi
  rw [plusL_getD _ _ (by rw [hl]; exact hi), vT_getD _ hi]
  unfold firstK
  rw [tab_getD hi, tab_getD hi, Int.one_mul, Int.add_emod_emod]
  have hb := hy.2.getD (show 0 < P by omega) i
  by_cases h : i = k
  · rw [h, if_neg (Nat.lt_irrefl k), if_pos rfl, if_pos (Nat.lt_succ_self k), Int.zero_add, hj]
  · rw [if_neg h, Int.add_zero]
    by_cases h2 : i < k
    · rw [if_pos h2, if_pos (by omega), Int.emod_eq_of_lt hb.1 hb.2]
    · rw [if_neg h2, if_neg (by omega)]; rfl
theorem plus_vT (hp : 2 ≤ P) {m : Nat} {k : Int} {x : List Int} (hx : x.length = pw n) : plusL P x (vT P n m k) (-1) = plusL P x (vT P n m (-k)) 1 := by
  refine list_ext_getD 0 (by rw [plusL_len, plusL_len]) fun i hi => ?_
  rw [plusL_len] at hi
  rw [plusL_getD _ _ hi, plusL_getD _ _ hi, vT_getD _ (by omega), vT_getD _ (by omega), Int.one_mul, Int.add_emod_emod]
  split
  · rw [Int.neg_mul, Int.one_mul, ← Int.sub_eq_add_neg, Int.sub_emod, Int.emod_emod_of_dvd _ (Int.dvd_refl P), ← Int.sub_emod, Int.sub_eq_add_neg]
  · simp
theorem sgnd_star (q : UInt8) {us : List By} (h : ∀ u ∈ us, okT u) : sgnd (starF q (sgnC us)) ∧ starF q (sgnC us) = starF 43 (sgnC us) := by
  cases us with
  | nil => exact ⟨trivial, rfl⟩
  | cons u r =>
    have hu := h u (by simp)
    have e : ∃ c t, sgnC (u :: r) = c :: t ∧ (c = 43 ∨ c = 45) := by
      unfold sgnC
      rw [List.flatMap_cons]
      unfold sgnT
      cases u with
      | nil => exact absurd rfl hu.1
      | cons c l =>
        by_cases hc : c = 45
        · rw [if_pos (show (c :: l).head? = some 45 by rw [hc]; rfl)]
          exact ⟨c, _, rfl, Or.inr hc⟩
        · rw [if_neg (fun e => hc (by injection e))]
          exact ⟨43, _, rfl, Or.inl rfl⟩
    obtain ⟨c, t, e, hc⟩ := e
    have hne : c ≠ 101 := fun e => by rcases hc with h | h <;> rw [h] at e <;> revert e <;> decide
    rw [e, starF_head hne, starF_head hne]
    exact ⟨hc, rfl⟩
/-- The head of a term. -/
theorem term_neg (hP : isP P = true) {m : Nat} {a : Int} (hn : n ≤ 6) (h0 : 0 < a) (h1 : a < P) : (termL P n m a).head? = some 45 ↔ negA P a = true := by
  obtain ⟨k, hk, k1, k6, ht⟩ := abs_facts hP h0 h1
  have hst := star_term hP (m := m) hn h0 h1 hk 43 (by decide)
  have hd := dig_val k6
  have hne : UInt8.ofNat (48 + k) ≠ 45 := fun e => by
    have := congrArg UInt8.toNat e
    rw [hd] at this
    have h45 : (45 : UInt8).toNat = 45 := rfl
    omega
  have hhd : ∀ t : By, t ≠ [] → (∀ r, t ≠ 101 :: r) → (starF 43 t).head? = t.head? := fun t h1 h2 => by
    cases t with
    | nil => exact absurd rfl h1
    | cons c r => rw [starF_head (fun e => h2 r (by rw [e]))]; rfl
  unfold termL
  by_cases hm : m = 0
  · rw [if_pos hm, ht]
    cases negA P a
    · simp only [Bool.false_eq_true, if_false, List.nil_append, List.head?_cons, iff_false]
      intro e; injection e with e; exact hne e
    · simp
  · rw [if_neg hm]
    obtain ⟨ds, e, hds⟩ := name_form hn hm
    unfold numP
    rw [ht, e]
    cases negA P a
    · simp only [Bool.false_eq_true, if_false, List.nil_append, iff_false]
      by_cases hk1 : ([UInt8.ofNat (48 + k)] : By) = [49]
      · rw [if_pos hk1]
        intro e; injection e with e; revert e; decide
      · rw [if_neg hk1, if_neg (fun e => by injection e with _ e; cases e)]
        intro e; injection e with e; exact hne e
    · simp only [if_true, List.singleton_append, iff_true]
      rw [if_neg (fun e => by injection e with _ e; cases e)]
      split <;> rfl
/-- The rest of the sum. -/
theorem sum_rest (hP : isP P = true) (hl : sq.length = n) (hn : n ≤ 6) {y : List Int} (hy : MuL P n y) : ∀ d k, k + d = pw n → evE P sq n (.sumL (firstK n y k)) (starF 43 (sgnC (tIn P n y k d))) = some (y, [])
  | 0, k, h => by
    rw [Nat.add_zero] at h
    rw [h, firstK_all hy.1]
    exact evE_endS rfl
  | d + 1, k, h => by
    have hp := isP_ge hP
    have hp2 : 2 ≤ P := by omega
    have hb := hy.2.getD (show 0 < P by omega) k
    have ih := sum_rest hP hl hn hy d (k + 1) (by omega)
    unfold tIn
    by_cases h0 : y.getD k 0 = 0
    · rw [if_pos h0, List.nil_append, ← firstK_zero h0]; exact ih
    · rw [if_neg h0]
      have ha0 : 0 < y.getD k 0 := by omega
      obtain ⟨j, hj, j1, j6, -⟩ := abs_facts hP ha0 hb.2
      obtain ⟨T, hT⟩ : ∃ T, T = termL P n k (y.getD k 0) := ⟨_, rfl⟩
      have hus : ∀ u ∈ tIn P n y (k + 1) d, okT u := fun u hu => by
        obtain ⟨m, g1, g2, g3, g4⟩ := tIn_mem d (k + 1) u hu
        have hbm := hy.2.getD (show 0 < P by omega) m
        rw [g4]
        exact (term_facts hP hn (by omega) hbm.1 hbm.2).1
      have e1 : sgnC ([T] ++ tIn P n y (k + 1) d) = sgnT T ++ sgnC (tIn P n y (k + 1) d) := by rw [sgnC_app, sgnC_one]
      rw [← hT, e1, starF_app]
      obtain ⟨s1, s2⟩ := sgnd_star (lastB 43 (sgnT T)) hus
      rw [s2] at s1 ⊢
      have hst := fun q hq => star_term hP (m := k) hn ha0 hb.2 hj q hq
      rw [← hT] at hst
      have hng := term_neg hP (n := n) (m := k) hn ha0 hb.2
      rw [← hT] at hng
      cases hneg : negA P (y.getD k 0)
      · rw [hneg] at hst hng
        have e2 : sgnT T = 43 :: T := by unfold sgnT; rw [if_neg (fun e => by have := hng.1 e; cases this)]
        rw [e2, starF_head (by decide), hst 43 (by decide)]
        simp only [Bool.false_eq_true, if_false, List.nil_append, List.cons_append]
        rw [evE_add (by decide) (prod_body hp2 hl hn (by omega) j6 s1)]
        show evE P sq n (.sumL (plusL P (firstK n y k) (vT P n k j) 1)) _ = _
        rw [firstK_next hp2 hy (by rw [← hj]; unfold absA; rw [hneg]; simp only [Bool.false_eq_true, if_false]; exact Int.emod_eq_of_lt hb.1 hb.2)]
        exact ih
      · rw [hneg] at hst hng
        have e2 : sgnT T = T := by unfold sgnT; rw [if_pos (hng.2 rfl)]
        rw [e2, hst 43 (by decide)]
        simp only [if_true, List.singleton_append, List.cons_append, List.nil_append]
        rw [evE_add (by decide) (prod_body hp2 hl hn (by omega) j6 s1)]
        show evE P sq n (.sumL (plusL P (firstK n y k) (vT P n k j) (-1))) _ = _
        rw [plus_vT hp2 (by unfold firstK; rw [tab_len]), firstK_next hp2 hy (by
          rw [← hj]; unfold absA; rw [hneg]; simp only [if_true]
          rw [show -(P - y.getD k 0) = y.getD k 0 + P * (-1) by omega, Int.add_mul_emod_self_left]
          exact Int.emod_eq_of_lt hb.1 hb.2)]
        exact ih
/-- The whole text. -/
theorem sum_all (hP : isP P = true) (hl : sq.length = n) (hn : n ≤ 6) {y : List Int} (hy : MuL P n y) : ∀ d k, k + d = pw n → firstK n y k = List.replicate (pw n) 0 → tIn P n y k d ≠ [] → evE P sq n .sum (starF 0 (lead1 (sgnC (tIn P n y k d)))) = some (y, [])
  | 0, k, h, hz, hne => absurd rfl hne
  | d + 1, k, h, hz, hne => by
    have hp := isP_ge hP
    have hp2 : 2 ≤ P := by omega
    have hb := hy.2.getD (show 0 < P by omega) k
    unfold tIn at hne ⊢
    by_cases h0 : y.getD k 0 = 0
    · rw [if_pos h0, List.nil_append] at hne ⊢
      exact sum_all hP hl hn hy d (k + 1) (by omega) (by rw [firstK_zero h0]; exact hz) hne
    · rw [if_neg h0]
      have ha0 : 0 < y.getD k 0 := by omega
      obtain ⟨j, hj, j1, j6, -⟩ := abs_facts hP ha0 hb.2
      obtain ⟨T, hT⟩ : ∃ T, T = termL P n k (y.getD k 0) := ⟨_, rfl⟩
      have hTok := (term_facts hP hn (m := k) (by omega) hb.1 hb.2).1
      have hThd := term_head hP hn (m := k) (by omega) hb.1 hb.2
      rw [← hT] at hTok hThd
      have hus : ∀ u ∈ tIn P n y (k + 1) d, okT u := fun u hu => by
        obtain ⟨m, g1, g2, g3, g4⟩ := tIn_mem d (k + 1) u hu
        have hbm := hy.2.getD (show 0 < P by omega) m
        rw [g4]
        exact (term_facts hP hn (by omega) hbm.1 hbm.2).1
      have ih := sum_rest hP hl hn hy d (k + 1) (by omega)
      have e1 : lead1 (sgnC ([T] ++ tIn P n y (k + 1) d)) = T ++ sgnC (tIn P n y (k + 1) d) := by
        rw [sgnC_app, sgnC_one, lead_app (sgnT_ne T hTok.1), lead_sgn hThd]
      rw [← hT, e1, starF_app]
      obtain ⟨s1, s2⟩ := sgnd_star (lastB 0 T) hus
      rw [s2] at s1 ⊢
      have hst := star_term hP (m := k) hn ha0 hb.2 hj 0 (by decide)
      rw [← hT] at hst
      rw [hst]
      have hzl : (List.replicate (pw n) (0 : Int)).length = pw n := List.length_replicate
      have hfin : ∀ i : Int, i % P = y.getD k 0 → vT P n k i = firstK n y (k + 1) := fun i hi => by
        rw [← firstK_next hp2 hy hi, hz]
        refine list_ext_getD 0 (by rw [vT_len, plusL_len, hzl]) fun q hq => ?_
        rw [vT_len] at hq
        rw [plusL_getD _ _ (by rw [hzl]; exact hq), vT_getD _ hq, List.getD_eq_getElem?_getD, List.getElem?_replicate, if_pos hq]
        show _ = (0 + 1 * _) % P
        rw [Int.zero_add, Int.one_mul, Int.emod_emod_of_dvd _ (Int.dvd_refl P)]
      cases hneg : negA P (y.getD k 0)
      · simp only [Bool.false_eq_true, if_false, List.nil_append]
        rw [evE_sum (prod_body hp2 hl hn (by omega) j6 s1)]
        rw [hfin j (by rw [← hj]; unfold absA; rw [hneg]; simp only [Bool.false_eq_true, if_false]; exact Int.emod_eq_of_lt hb.1 hb.2)]
        exact ih
      · simp only [if_true, List.singleton_append, List.cons_append, List.nil_append]
        rw [evE_sum (prod_neg hp2 hl hn (by omega) j6 s1)]
        rw [hfin (-(j : Int)) (by
          rw [← hj]; unfold absA; rw [hneg]; simp only [if_true]
          rw [show -(P - y.getD k 0) = y.getD k 0 + P * (-1) by omega, Int.add_mul_emod_self_left]
          exact Int.emod_eq_of_lt hb.1 hb.2)]
        exact ih
theorem val_star (hP : isP P = true) (hl : sq.length = n) (hn : n ≤ 6) {y : List Int} (hy : MuL P n y) : valR P sq n (starF 0 (textL P n y)) = some y := by
  have hp := isP_ge hP
  obtain ⟨t1, t2⟩ := text_terms hP hn hy (pw n) (Nat.le_refl _)
  have hto := tIn_to (p := P) (n := n) y (pw n) 0
  rw [Nat.zero_add] at hto
  have hto2 : termsTo P n y (pw n) = tIn P n y 0 (pw n) := hto
  have hz : firstK n y 0 = List.replicate (pw n) 0 := (fold_terms hP hn hy 0 (Nat.zero_le _)).symm
  have e : evE P sq n .sum (starF 0 (textL P n y)) = some (y, []) := by
    unfold textL
    rw [hy.1]
    by_cases h0 : textTo P n y (pw n) = []
    · rw [if_pos h0]
      have hfold := fold_terms hP hn hy (pw n) (Nat.le_refl _)
      rw [firstK_all hy.1, t2.1 h0] at hfold
      have hy0 : List.replicate (pw n) 0 = y := hfold
      have e1 : starF 0 [48] = UInt8.ofNat (48 + 0) :: [] := by decide
      rw [e1, evE_sum (v := vT P n 0 ((0 : Nat) : Int)) (r := []) (by rw [evE_prod (ev_num (by omega) (fun c r e => by cases e)), evE_endP rfl]), evE_endS rfl]
      have : vT P n 0 ((0 : Nat) : Int) = y := by
        rw [← hy0]
        refine list_ext_getD 0 (by rw [vT_len, List.length_replicate]) fun i hi => ?_
        rw [vT_len] at hi
        rw [vT_getD _ hi, List.getD_eq_getElem?_getD, List.getElem?_replicate, if_pos hi]
        split <;> simp
      rw [this]
    · rw [if_neg h0, t1, hto2]
      exact sum_all hP hl hn hy (pw n) 0 (by omega) hz (fun e => h0 (t2.2 (hto2.trans e)))
  unfold valR; rw [e]
end
end Go.Proofs.YticofgmmjecleaaGreatDoor
namespace Go.Proofs.YticofgmmjecleaaGreatDoor
open Go.RowKit
set_option maxHeartbeats 400000 in
set_option maxRecDepth 8000 in
theorem likeInts_any (A B : Option Addr) (n m c d : Nat) (xs ys : List Int) (w : World) (hn : n ≤ 1099511627776) (hm : m ≤ 1099511627776)
    (ha : Rd w A n (ints xs)) (hb : Rd w B m (ints ys)) :
    Calls Tryz.prog 31 #[.slice A n c, .slice B m d] w fun e w' => e = .returned (.bool (decide (xs = ys))) ∧ ∃ j, w' = w.drewN j := by
  have hxl : xs.length = n := by have := ha.1; rwa [ints_length] at this
  have hyl : ys.length = m := by have := hb.1; rwa [ints_length] at this
  by_cases hnm : n = m
  · subst hnm
    have Hx := Lib.hid hxl; clear hxl
    have Hy := Lib.hid hyl; clear hyl
    go_enter Tryz.func31, Tryz.ntmps31
    go_wp2
    go_loopw [5] (fun i wr => ∃ k j : Nat, k ≤ n ∧ i = .int .i64 k ∧ xs.take k = ys.take k ∧ wr = w.drewN j) (fun i _ => n - (intOf i).toNat)
    case atStart => exact ⟨0, 0, by omega, rfl, by simp, rfl⟩
    case round =>
      obtain ⟨k, j, hk, rfl, hxy, rfl⟩ := hrel
      have H := Lib.hid hxy; clear hxy
      by_cases hlt : k < n
      · obtain ⟨g, o, rfl, hx, hcx⟩ := ha.int hlt
        obtain ⟨g', o', rfl, hy, hcy⟩ := hb.int hlt
        clear ha hb
        go_wp2
        go_quiet (fail)
        go_wp2
        · go_ret
          exact ⟨ret_bool (ne_of_get xs ys k hx hy (by assumption)).symm, _, World.drewN_drewN _ _ _⟩
        · go_roundw
          case rel => exact ⟨k + 1, _, by omega, by go_num, take_succ_eq xs ys k hx hy H.out (by simpa using (by assumption : (xs[k] != ys[k]) = false)), rfl⟩
          case measure => simp [intOf]; omega
      · go_wp2
        go_ret
        refine ⟨ret_bool ?_, _, rfl⟩
        have := H.out
        rw [List.take_of_length_le (by rw [Hx.out]; omega), List.take_of_length_le (by rw [Hy.out]; omega)] at this
        rw [this]; simp
  · have hne : decide (xs = ys) = false := by
      rw [decide_eq_false_iff_not]; rintro rfl; omega
    have Hne := Lib.hid hne; clear hne hxl hyl
    have hb0 : ((n : Int) != (m : Int)) = true := by rw [bne_iff_ne]; omega
    go_enter Tryz.func31, Tryz.ntmps31
    go_wp2
    go_ret
    exact ⟨ret_bool Hne.out.symm, 0, rfl⟩
end Go.Proofs.YticofgmmjecleaaGreatDoor
namespace Go.Proofs.YticofgmmjecleaaGreatDoor
open Go.RowKit
theorem mod5_any (p n : Int) (w : World) (hp : 0 < p) (hp2 : p ≤ 13) :
    Calls Tryz.prog 84 #[.int .i64 p, .int .i64 n] w fun e w' => e = .returned (.int .i64 (n % p)) ∧ w = w' := by
  go_enter Tryz.func84, Tryz.ntmps84
  go_wp2
  go_ret
  exact ⟨ret_int (num_math p n hp hp2), rfl⟩
theorem big_any (A : Option Addr) (n c : Nat) (w : World) :
    Calls Tryz.prog 25 #[.slice A n c] w fun e w' => e = .returned (.bool (decide (4096 < n))) ∧ w = w' := by
  go_enter Tryz.func25, Tryz.ntmps25
  by_cases h : 4096 < n
  · have d1 : decide ((4096 : Int) < (n : Int)) = true := by rw [decide_eq_true_eq]; omega
    go_wp2
    go_ret
    exact ⟨ret_bool (by rw [eq_comm, decide_eq_true_eq]; exact h), rfl⟩
  · have d1 : decide ((4096 : Int) < (n : Int)) = false := by rw [decide_eq_false_iff_not]; omega
    go_wp2
    go_ret
    exact ⟨ret_bool (by rw [eq_comm, decide_eq_false_iff_not]; exact h), rfl⟩
theorem size5_any (P : Int) (A : Option Addr) (n c : Nat) (w : World) (hn : n ≤ 30) :
    Calls Tryz.prog 41 #[.agg #[.int .i64 P, .slice A n c]] w fun e w' => e = .returned (.int .i64 (pw n)) ∧ Below w.heap.size w w' := by
  go_enter Tryz.func41, Tryz.ntmps41
  go_wp2
  go_ret
  exact ⟨ret_int (wrap_pw n hn), (Below.refl _ _).alloc (Nat.le_refl _) _⟩
end Go.Proofs.YticofgmmjecleaaGreatDoor
namespace Go.Proofs.YticofgmmjecleaaGreatDoor
open Go.RowKit
set_option maxHeartbeats 3200000 in
set_option maxRecDepth 8000 in
theorem GeometricProduct_ok (P : Int) (A : Option Addr) (n c : Nat) (sq : List Int) (X : Option Addr) (m cx : Nat) (xs : List Int) (Y : Option Addr) (l cy : Nat) (ys : List Int) (w : World) (hn : n ≤ 1048576) (hm : m ≤ 1048576) (hl : l ≤ 1048576) (ha : Rd w A n (ints sq)) (hx : Rd w X m (ints xs)) (hcx : m ≤ cx) (hy : Rd w Y l (ints ys)) (hcy : l ≤ cy) (h0 : codeM P sq [xs, ys] = 0) :
    Calls Tryz.prog 83 #[.agg #[.int .i64 P, .slice A n c], .slice X m cx, .slice Y l cy] w fun e w' => ∃ (A' : Option Addr) (c' : Nat), e = .returned (.tuple #[.slice A' (pw n) c', .int .i64 0]) ∧ MkI w w' A' (pw n) c' (mulL P sq xs ys) := by
  have hB0 : Below w.heap.size w (w.alloc (.cells #[.int .i64 P, .slice A n c] 28)) := (Below.refl _ _).alloc (Nat.le_refl _) _
  have k0 : Blk (w.alloc (.cells #[.int .i64 P, .slice A n c] 28)) w.heap.size 28 #[.int .i64 P, .slice A n c] := Blk.new _ _ _
  have hB1 : Below w.heap.size w ((w.alloc (.cells #[.int .i64 P, .slice A n c] 28)).alloc (.cells #[.slice X m cx, .slice Y l cy] 22)) := hB0.alloc (by simp) _
  have k1 : Blk ((w.alloc (.cells #[.int .i64 P, .slice A n c] 28)).alloc (.cells #[.slice X m cx, .slice Y l cy] 22)) w.heap.size 28 #[.int .i64 P, .slice A n c] := k0.alloc _
  have hreg := checkMultis_any P A (some ⟨w.heap.size + 1, 0, none⟩) n c 2 2 sq [xs, ys] ((w.alloc (.cells #[.int .i64 P, .slice A n c] 28)).alloc (.cells #[.slice X m cx, .slice Y l cy] 22)) hn (by omega) (ha.below hB1) (rdII_two (Blk.newAt (by simp)) (hx.below hB1) (hy.below hB1) hcx hcy) (all_two (by rw [hx.lenI]; exact hm) (by rw [hy.lenI]; exact hl))
  rw [h0] at hreg
  obtain ⟨HP, hp, hp2, hd1, hd2, hs0, hms⟩ := codeM_spec2 h0
  obtain ⟨hx1, hxs0⟩ := hms xs (by simp)
  obtain ⟨hy1, hys0⟩ := hms ys (by simp)
  have hsl := ha.lenI
  have hmx : m = pw n := by rw [← hx.lenI, hx1, hsl]
  have hly : l = pw n := by rw [← hy.lenI, hy1, hsl]
  subst hmx
  subst hly
  rw [hsl] at hd2
  have HXS := Lib.hid hxs0
  have HYS := Lib.hid hys0
  have HS := Lib.hid hs0
  have HX1 := Lib.hid hx.lenI
  have HY1 := Lib.hid hy.lenI
  have htm := timesL_two P sq n xs ys HX1.out HXS.out
  clear hms hx1 hs0 hxs0 hy1 hys0 h0 hsl
  go_enter Tryz.func83, Tryz.ntmps83
  go_wp2_with fail
  refine hreg.mono ?_
  rintro e w2 ⟨rfl, hb2⟩
  have hB2 := hB1.trans (hb2.mono hB1.size)
  have k2 := k1.below hb2 k1.lt
  obtain ⟨q0, q1⟩ := k2.two
  clear k0 hB0 k1 hB1 hb2 hreg
  have hB3 : Below w.heap.size w (w2.alloc (.cells #[.slice X (pw n) cx, .slice Y (pw n) cy] 22)) := hB2.alloc hB2.size _
  have hcall := times_any P A n c sq (some ⟨w2.heap.size, 0, none⟩) 2 2 [xs, ys] (w2.alloc (.cells #[.slice X (pw n) cx, .slice Y (pw n) cy] 22)) (by omega) hp2 hd2 (by omega) (ha.below hB3) HS.out (rdII_two (Blk.new w2 22 _) (hx.below hB3) (hy.below hB3) hcx hcy) (all_two ⟨HXS.out, HX1.out⟩ ⟨HYS.out, HY1.out⟩)
  rw [htm] at hcall
  go_wp2_with fail
  refine hcall.mono ?_
  rintro e w3 ⟨A', c', rfl, hM⟩
  have hM3 := hM.after hB3
  go_wp2
  go_ret2
  exact ⟨A', c', rfl, hM3⟩
set_option maxHeartbeats 3200000 in
set_option maxRecDepth 8000 in
theorem times5_ok (P : Int) (A : Option Addr) (n c : Nat) (sq : List Int) (X : Option Addr) (m cx : Nat) (xs : List Int) (Y : Option Addr) (l cy : Nat) (ys : List Int) (w : World) (hn : n ≤ 1048576) (hm : m ≤ 1048576) (hl : l ≤ 1048576) (ha : Rd w A n (ints sq)) (hx : Rd w X m (ints xs)) (hcx : m ≤ cx) (hy : Rd w Y l (ints ys)) (hcy : l ≤ cy) (h0 : codeM P sq [xs, ys] = 0) :
    Calls Tryz.prog 43 #[.agg #[.int .i64 P, .slice A n c], .slice X m cx, .slice Y l cy] w fun e w' => ∃ (A' : Option Addr) (c' : Nat), e = .returned (.slice A' (pw n) c') ∧ MkI w w' A' (pw n) c' (mulL P sq xs ys) := by
  have hB0 : Below w.heap.size w (w.alloc (.cells #[.int .i64 P, .slice A n c] 28)) := (Below.refl _ _).alloc (Nat.le_refl _) _
  have k0 : Blk (w.alloc (.cells #[.int .i64 P, .slice A n c] 28)) w.heap.size 28 #[.int .i64 P, .slice A n c] := Blk.new _ _ _
  have hgp := GeometricProduct_ok P A n c sq X m cx xs Y l cy ys (w.alloc (.cells #[.int .i64 P, .slice A n c] 28)) hn hm hl (ha.below hB0) (hx.below hB0) hcx (hy.below hB0) hcy h0
  clear h0
  go_enter Tryz.func43, Tryz.ntmps43
  go_wp2_with fail
  refine hgp.mono ?_
  rintro e w2 ⟨A', c', rfl, hM⟩
  have hM3 := hM.after hB0
  go_wp2
  go_ret
  exact ⟨A', c', rfl, hM3⟩
end Go.Proofs.YticofgmmjecleaaGreatDoor
namespace Go.Proofs.YticofgmmjecleaaGreatDoor
open Go.RowKit
theorem mul_small5 {k y : Int} (h1 : -1000 ≤ k) (h2 : k ≤ 1000) (y1 : 0 ≤ y) (y2 : y ≤ 13) : -13000 ≤ k * y ∧ k * y ≤ 13000 := by
  rcases Int.le_total 0 k with h | h
  · have a := Int.mul_nonneg h y1
    have b := Int.le_trans (Int.mul_le_mul_of_nonneg_right h2 y1) (show 1000 * y ≤ 13000 by omega)
    omega
  · have a := Int.mul_nonneg (show 0 ≤ -k by omega) y1
    have b := Int.le_trans (Int.mul_le_mul_of_nonneg_right (show -k ≤ 1000 by omega) y1) (show 1000 * y ≤ 13000 by omega)
    rw [Int.neg_mul] at a b
    omega
set_option maxHeartbeats 1600000 in
set_option maxRecDepth 8000 in
theorem plus5_any (p : Int) (A : Option Addr) (n c : Nat) (B : Option Addr) (d : Nat) (k : Int) (xs ys : List Int) (w : World) (hp : 2 ≤ p) (hp2 : p ≤ 13) (hn : n ≤ 65536) (ha : Rd w A n (ints xs)) (hx : NumsL p xs) (hb : Rd w B n (ints ys)) (hy : NumsL p ys) (hk1 : -1000 ≤ k) (hk2 : k ≤ 1000) :
    Calls Tryz.prog 44 #[.int .i64 p, .slice A n c, .slice B n d, .int .i64 k] w fun e w' => ∃ A' c', e = .returned (.slice A' n c') ∧ MkI w w' A' n c' (plusL p xs ys k) := by
  have hxl : xs.length = n := by have := ha.1; rwa [ints_length] at this
  have Hx := Lib.hid hxl; clear hxl
  have hM0 := Mk.lit (E := 2) (Below.refl w.heap.size w) #[] (by simp)
  have hnn : ((n : Int) != (n : Int)) = false := by simp
  go_enter Tryz.func44, Tryz.ntmps44
  go_wp2
  go_loopw [9, 10] (fun out i wr => ∃ (j : Nat) (A' : Option Addr) (c' : Nat), j ≤ n ∧ i = .int .i64 j ∧ out = .slice A' j c' ∧ MkI w wr A' j c' (tab j fun i => (xs.getD i 0 + k * ys.getD i 0) % p)) (fun _ i _ => n - (intOf i).toNat)
  case atStart => exact ⟨0, _, _, by omega, rfl, rfl, by simpa [MkI, ints, tab] using hM0⟩
  case round =>
    obtain ⟨j, A', c', hj, rfl, rfl, hM⟩ := hrel
    clear hM0
    by_cases hlt : j < n
    · obtain ⟨g, o, rfl, hxj, hcx⟩ := (ha.below hM.b).int hlt
      obtain ⟨g2, o2, rfl, hyj, hcy⟩ := (hb.below hM.b).int hlt
      obtain ⟨x1, x2⟩ := hx _ (List.getElem_mem hxj)
      obtain ⟨y1, y2⟩ := hy _ (List.getElem_mem hyj)
      obtain ⟨m1, m2⟩ := mul_small5 hk1 hk2 y1 (show ys[j] ≤ 13 by omega)
      have HV : Hid ((tab (j + 1) fun i => (xs.getD i 0 + k * ys.getD i 0) % p) = (tab j fun i => (xs.getD i 0 + k * ys.getD i 0) % p) ++ [(xs[j] + k * ys[j]) % p]) := Lib.hid (by rw [tab_succ, getD_of_lt 0 hxj, getD_of_lt 0 hyj])
      have W1 := i64_fit (k * ys[j]) (by omega) (by omega)
      have W2 := i64_fit (xs[j] + k * ys[j]) (by omega) (by omega)
      have i1 : (0 : Int) ≤ (j : Int) := by omega
      have i2 : (j : Int) < (n : Int) := by omega
      go_wp2
      refine wp_obs 15 [[], [], [], [], [2, 3], [2, 3, 4], [], [], [], [7, 8], [7, 8, 9], [6, 7, 8, 9, 10], [2, 3, 4, 5, 6, 7, 8, 9, 10, 11], [1, 2, 3, 4, 5, 6, 7, 8, 9, 10, 11, 12], [1, 2, 3, 4, 5, 6, 7, 8, 9, 10, 11, 12, 13], [0, 1, 2, 3, 4, 5, 6, 7, 8, 9, 10, 11, 12, 13, 14], [0, 1, 2, 3, 4, 5, 6, 7, 8, 9, 10, 11, 12, 13, 14, 15]] [VIs (.slice A' j c'), VIs (.int .i64 p), VIs (.slice (some ⟨g, o, none⟩) n c), VIs (.int .i64 j), VIs (.pointer (some ⟨g, o + j, none⟩)), VIs (.int .i64 xs[j]), VIs (.int .i64 k), VIs (.slice (some ⟨g2, o2, none⟩) n d), VIs (.int .i64 j), VIs (.pointer (some ⟨g2, o2 + j, none⟩)), VIs (.int .i64 ys[j]), VIs (.int .i64 (k * ys[j])), VIs (.int .i64 (xs[j] + k * ys[j])), VIs (.int .i64 ((xs[j] + k * ys[j]) % p)), VBs 2 #[.int .i64 ((xs[j] + k * ys[j]) % p)]] (fun w' => MkI w w' A' j c' (tab j fun i => (xs.getD i 0 + k * ys.getD i 0) % p) ∧ w'.cell? ⟨g, o + j, none⟩ = some (.int .i64 xs[j]) ∧ w'.cell? ⟨g2, o2 + j, none⟩ = some (.int .i64 ys[j])) (by kernel_rfl) (by kernel_rfl) (fun _ _ h hb => ⟨h.1.below hb, (hb.cell (World.block_lt_of_cell? _ _ h.2.1)).trans h.2.1, (hb.cell (World.block_lt_of_cell? _ _ h.2.2)).trans h.2.2⟩) (⟨hM.drew, hcx, hcy⟩) (fun x => ?_)
      refine obs_step (Eq.trans (by simp only [List.getElem?_toArray, List.getElem?_cons_zero]; exact rfl) rfl) rfl (fun w' hS hV K hK => ?_) ?_
      · obtain ⟨_, q1, q2⟩ := hS
        go_simp
        exact hK.out _ _ _ rfl rfl rfl (Below.refl _ _)
      simp only [List.setIfInBounds_toArray, List.set_cons_zero, List.set_cons_succ]
      refine obs_step (Eq.trans (by simp only [List.getElem?_toArray, List.getElem?_cons_succ, List.getElem?_cons_zero]; exact rfl) rfl) rfl (fun w' hS hV K hK => ?_) ?_
      · obtain ⟨_, q1, q2⟩ := hS
        go_simp
        exact hK.out _ _ _ rfl rfl rfl (Below.refl _ _)
      simp only [List.setIfInBounds_toArray, List.set_cons_zero, List.set_cons_succ]
      refine obs_step (Eq.trans (by simp only [List.getElem?_toArray, List.getElem?_cons_succ, List.getElem?_cons_zero]; exact rfl) rfl) rfl (fun w' hS hV K hK => ?_) ?_
      · obtain ⟨_, q1, q2⟩ := hS
        go_simp
        exact hK.out _ _ _ rfl rfl rfl (Below.refl _ _)
      simp only [List.setIfInBounds_toArray, List.set_cons_zero, List.set_cons_succ]
      refine obs_step (Eq.trans (by simp only [List.getElem?_toArray, List.getElem?_cons_succ, List.getElem?_cons_zero]; exact rfl) rfl) rfl (fun w' hS hV K hK => ?_) ?_
      · obtain ⟨_, q1, q2⟩ := hS
        go_simp
        exact hK.out _ _ _ rfl rfl rfl (Below.refl _ _)
      simp only [List.setIfInBounds_toArray, List.set_cons_zero, List.set_cons_succ]
      refine obs_step (Eq.trans (by simp only [List.getElem?_toArray, List.getElem?_cons_succ, List.getElem?_cons_zero]; exact rfl) rfl) rfl (fun w' hS hV K hK => ?_) ?_
      · have e2 : x 2 = (.slice (some ⟨g, o, none⟩) n c) := hV 2 (by decide)
        have e3 : x 3 = (.int .i64 j) := hV 3 (by decide)
        obtain ⟨_, q1, q2⟩ := hS
        go_simp
        exact hK.out _ _ _ rfl rfl rfl (Below.refl _ _)
      simp only [List.setIfInBounds_toArray, List.set_cons_zero, List.set_cons_succ]
      refine obs_step (Eq.trans (by simp only [List.getElem?_toArray, List.getElem?_cons_succ, List.getElem?_cons_zero]; exact rfl) rfl) rfl (fun w' hS hV K hK => ?_) ?_
      · have e2 : x 2 = (.slice (some ⟨g, o, none⟩) n c) := hV 2 (by decide)
        have e3 : x 3 = (.int .i64 j) := hV 3 (by decide)
        have e4 : x 4 = (.pointer (some ⟨g, o + j, none⟩)) := hV 4 (by decide)
        obtain ⟨_, q1, q2⟩ := hS
        go_simp
        exact hK.out _ _ _ rfl rfl rfl (Below.refl _ _)
      simp only [List.setIfInBounds_toArray, List.set_cons_zero, List.set_cons_succ]
      refine obs_step (Eq.trans (by simp only [List.getElem?_toArray, List.getElem?_cons_succ, List.getElem?_cons_zero]; exact rfl) rfl) rfl (fun w' hS hV K hK => ?_) ?_
      · obtain ⟨_, q1, q2⟩ := hS
        go_simp
        exact hK.out _ _ _ rfl rfl rfl (Below.refl _ _)
      simp only [List.setIfInBounds_toArray, List.set_cons_zero, List.set_cons_succ]
      refine obs_step (Eq.trans (by simp only [List.getElem?_toArray, List.getElem?_cons_succ, List.getElem?_cons_zero]; exact rfl) rfl) rfl (fun w' hS hV K hK => ?_) ?_
      · obtain ⟨_, q1, q2⟩ := hS
        go_simp
        exact hK.out _ _ _ rfl rfl rfl (Below.refl _ _)
      simp only [List.setIfInBounds_toArray, List.set_cons_zero, List.set_cons_succ]
      refine obs_step (Eq.trans (by simp only [List.getElem?_toArray, List.getElem?_cons_succ, List.getElem?_cons_zero]; exact rfl) rfl) rfl (fun w' hS hV K hK => ?_) ?_
      · obtain ⟨_, q1, q2⟩ := hS
        go_simp
        exact hK.out _ _ _ rfl rfl rfl (Below.refl _ _)
      simp only [List.setIfInBounds_toArray, List.set_cons_zero, List.set_cons_succ]
      refine obs_step (Eq.trans (by simp only [List.getElem?_toArray, List.getElem?_cons_succ, List.getElem?_cons_zero]; exact rfl) rfl) rfl (fun w' hS hV K hK => ?_) ?_
      · have e7 : x 7 = (.slice (some ⟨g2, o2, none⟩) n d) := hV 7 (by decide)
        have e8 : x 8 = (.int .i64 j) := hV 8 (by decide)
        obtain ⟨_, q1, q2⟩ := hS
        go_simp
        exact hK.out _ _ _ rfl rfl rfl (Below.refl _ _)
      simp only [List.setIfInBounds_toArray, List.set_cons_zero, List.set_cons_succ]
      refine obs_step (Eq.trans (by simp only [List.getElem?_toArray, List.getElem?_cons_succ, List.getElem?_cons_zero]; exact rfl) rfl) rfl (fun w' hS hV K hK => ?_) ?_
      · have e7 : x 7 = (.slice (some ⟨g2, o2, none⟩) n d) := hV 7 (by decide)
        have e8 : x 8 = (.int .i64 j) := hV 8 (by decide)
        have e9 : x 9 = (.pointer (some ⟨g2, o2 + j, none⟩)) := hV 9 (by decide)
        obtain ⟨_, q1, q2⟩ := hS
        go_simp
        exact hK.out _ _ _ rfl rfl rfl (Below.refl _ _)
      simp only [List.setIfInBounds_toArray, List.set_cons_zero, List.set_cons_succ]
      refine obs_step (Eq.trans (by simp only [List.getElem?_toArray, List.getElem?_cons_succ, List.getElem?_cons_zero]; exact rfl) rfl) rfl (fun w' hS hV K hK => ?_) ?_
      · have e6 : x 6 = (.int .i64 k) := hV 6 (by decide)
        have e7 : x 7 = (.slice (some ⟨g2, o2, none⟩) n d) := hV 7 (by decide)
        have e8 : x 8 = (.int .i64 j) := hV 8 (by decide)
        have e9 : x 9 = (.pointer (some ⟨g2, o2 + j, none⟩)) := hV 9 (by decide)
        have e10 : x 10 = (.int .i64 ys[j]) := hV 10 (by decide)
        obtain ⟨_, q1, q2⟩ := hS
        go_simp
        exact hK.out _ _ _ rfl rfl rfl (Below.refl _ _)
      simp only [List.setIfInBounds_toArray, List.set_cons_zero, List.set_cons_succ]
      refine obs_step (Eq.trans (by simp only [List.getElem?_toArray, List.getElem?_cons_succ, List.getElem?_cons_zero]; exact rfl) rfl) rfl (fun w' hS hV K hK => ?_) ?_
      · have e2 : x 2 = (.slice (some ⟨g, o, none⟩) n c) := hV 2 (by decide)
        have e3 : x 3 = (.int .i64 j) := hV 3 (by decide)
        have e4 : x 4 = (.pointer (some ⟨g, o + j, none⟩)) := hV 4 (by decide)
        have e5 : x 5 = (.int .i64 xs[j]) := hV 5 (by decide)
        have e6 : x 6 = (.int .i64 k) := hV 6 (by decide)
        have e7 : x 7 = (.slice (some ⟨g2, o2, none⟩) n d) := hV 7 (by decide)
        have e8 : x 8 = (.int .i64 j) := hV 8 (by decide)
        have e9 : x 9 = (.pointer (some ⟨g2, o2 + j, none⟩)) := hV 9 (by decide)
        have e10 : x 10 = (.int .i64 ys[j]) := hV 10 (by decide)
        have e11 : x 11 = (.int .i64 (k * ys[j])) := hV 11 (by decide)
        obtain ⟨_, q1, q2⟩ := hS
        go_simp
        exact hK.out _ _ _ rfl rfl rfl (Below.refl _ _)
      simp only [List.setIfInBounds_toArray, List.set_cons_zero, List.set_cons_succ]
      refine obs_step (Eq.trans (by simp only [List.getElem?_toArray, List.getElem?_cons_succ, List.getElem?_cons_zero]; exact rfl) rfl) rfl (fun w' hS hV K hK => ?_) ?_
      · have e1 : x 1 = (.int .i64 p) := hV 1 (by decide)
        have e2 : x 2 = (.slice (some ⟨g, o, none⟩) n c) := hV 2 (by decide)
        have e3 : x 3 = (.int .i64 j) := hV 3 (by decide)
        have e4 : x 4 = (.pointer (some ⟨g, o + j, none⟩)) := hV 4 (by decide)
        have e5 : x 5 = (.int .i64 xs[j]) := hV 5 (by decide)
        have e6 : x 6 = (.int .i64 k) := hV 6 (by decide)
        have e7 : x 7 = (.slice (some ⟨g2, o2, none⟩) n d) := hV 7 (by decide)
        have e8 : x 8 = (.int .i64 j) := hV 8 (by decide)
        have e9 : x 9 = (.pointer (some ⟨g2, o2 + j, none⟩)) := hV 9 (by decide)
        have e10 : x 10 = (.int .i64 ys[j]) := hV 10 (by decide)
        have e11 : x 11 = (.int .i64 (k * ys[j])) := hV 11 (by decide)
        have e12 : x 12 = (.int .i64 (xs[j] + k * ys[j])) := hV 12 (by decide)
        obtain ⟨_, q1, q2⟩ := hS
        go_simp
        refine (mod5_any p (xs[j] + k * ys[j]) w' (by omega) hp2).mono ?_
        rintro e w1 ⟨rfl, rfl⟩
        exact hK.out _ _ _ rfl rfl rfl (Below.refl _ _)
      simp only [List.setIfInBounds_toArray, List.set_cons_zero, List.set_cons_succ]
      refine obs_step (Eq.trans (by simp only [List.getElem?_toArray, List.getElem?_cons_succ, List.getElem?_cons_zero]; exact rfl) rfl) rfl (fun w' hS hV K hK => ?_) ?_
      · have e1 : x 1 = (.int .i64 p) := hV 1 (by decide)
        have e2 : x 2 = (.slice (some ⟨g, o, none⟩) n c) := hV 2 (by decide)
        have e3 : x 3 = (.int .i64 j) := hV 3 (by decide)
        have e4 : x 4 = (.pointer (some ⟨g, o + j, none⟩)) := hV 4 (by decide)
        have e5 : x 5 = (.int .i64 xs[j]) := hV 5 (by decide)
        have e6 : x 6 = (.int .i64 k) := hV 6 (by decide)
        have e7 : x 7 = (.slice (some ⟨g2, o2, none⟩) n d) := hV 7 (by decide)
        have e8 : x 8 = (.int .i64 j) := hV 8 (by decide)
        have e9 : x 9 = (.pointer (some ⟨g2, o2 + j, none⟩)) := hV 9 (by decide)
        have e10 : x 10 = (.int .i64 ys[j]) := hV 10 (by decide)
        have e11 : x 11 = (.int .i64 (k * ys[j])) := hV 11 (by decide)
        have e12 : x 12 = (.int .i64 (xs[j] + k * ys[j])) := hV 12 (by decide)
        have e13 : x 13 = (.int .i64 ((xs[j] + k * ys[j]) % p)) := hV 13 (by decide)
        obtain ⟨_, q1, q2⟩ := hS
        go_simp
        exact hK.out _ _ _ rfl rfl ⟨_, rfl, Blk.new _ _ _⟩ ((Below.refl _ _).alloc (Nat.le_refl _) _)
      simp only [List.setIfInBounds_toArray, List.set_cons_zero, List.set_cons_succ]
      refine fun w' hS hV => ?_
      have e0 : x 0 = (.slice A' j c') := hV 0 (by decide)
      have e1 : x 1 = (.int .i64 p) := hV 1 (by decide)
      have e2 : x 2 = (.slice (some ⟨g, o, none⟩) n c) := hV 2 (by decide)
      have e3 : x 3 = (.int .i64 j) := hV 3 (by decide)
      have e4 : x 4 = (.pointer (some ⟨g, o + j, none⟩)) := hV 4 (by decide)
      have e5 : x 5 = (.int .i64 xs[j]) := hV 5 (by decide)
      have e6 : x 6 = (.int .i64 k) := hV 6 (by decide)
      have e7 : x 7 = (.slice (some ⟨g2, o2, none⟩) n d) := hV 7 (by decide)
      have e8 : x 8 = (.int .i64 j) := hV 8 (by decide)
      have e9 : x 9 = (.pointer (some ⟨g2, o2 + j, none⟩)) := hV 9 (by decide)
      have e10 : x 10 = (.int .i64 ys[j]) := hV 10 (by decide)
      have e11 : x 11 = (.int .i64 (k * ys[j])) := hV 11 (by decide)
      have e12 : x 12 = (.int .i64 (xs[j] + k * ys[j])) := hV 12 (by decide)
      have e13 : x 13 = (.int .i64 ((xs[j] + k * ys[j]) % p)) := hV 13 (by decide)
      obtain ⟨b14, e14, h14⟩ := hV 14 (by decide)
      simp only [e0, e1, e2, e3, e4, e5, e6, e7, e8, e9, e10, e11, e12, e13, e14]
      clear e0 e1 e2 e3 e4 e5 e6 e7 e8 e9 e10 e11 e12 e13 e14
      obtain ⟨s1, s2, s3⟩ := hS
      refine any_plain (j := 15) (by kernel_rfl) (Eq.trans (by simp only [List.getElem?_toArray, List.getElem?_cons_succ, List.getElem?_cons_zero]; exact rfl) rfl) rfl (fun K hK => ?_)
      refine wp_app1 w w' 22 2 _ _ Tryz.underlying22 info_i rfl (by omega) _ _ rfl A' j c' _ _ s1 (by omega) rfl _ h14 (by rfl) (by rfl) ?_
      intro A2 c2 w2 hM2 hgr
      refine hK.out _ _ ?_
      simp only [Act.put, List.setIfInBounds_toArray, List.set_cons_zero, List.set_cons_succ]
      refine any_one (j := 16) (by kernel_rfl) (Eq.trans (by simp only [List.getElem?_toArray, List.getElem?_cons_succ, List.getElem?_cons_zero]; exact rfl) rfl) (fun K hK => ?_)
      go_simp
      refine hK.out _ _ (wpAny_done (by kernel_rfl) ?_ _)
      clear W1 W2 s2 s3 hM
      go_wp2
      go_roundw
      case rel => exact ⟨j + 1, A2, c2, by omega, by go_num, rfl, by rw [HV.out]; simpa [MkI, ints] using hM2⟩
      case measure => simp [intOf]; omega
    · go_wp2
      go_ret
      obtain rfl : j = n := by omega
      exact ⟨_, _, rfl, by unfold plusL; rw [Hx.out]; exact hM⟩
end Go.Proofs.YticofgmmjecleaaGreatDoor
namespace Go.Proofs.YticofgmmjecleaaGreatDoor
section
variable {P : Int} {sq xs ys : List Int}
end
theorem codeM_mk {P : Int} {sq : List Int} {ms : List (List Int)} (h1 : isSp P sq = true) (h : ∀ ys ∈ ms, ys.length = pw sq.length ∧ NumsL P ys) : codeM P sq ms = 0 := by
  unfold codeM
  rw [if_pos h1, if_neg]
  intro hh
  obtain ⟨ys, hy, e⟩ := List.any_eq_true.1 hh
  obtain ⟨h2, h3⟩ := h ys hy
  have h4 : isMu P sq ys = true := by
    unfold isMu nums
    rw [h2, Bool.and_eq_true]
    refine ⟨by simp, List.all_eq_true.2 fun x hx => ?_⟩
    have := h3 x hx
    simp [inR]
    omega
  rw [h4] at e
  simp at e
end Go.Proofs.YticofgmmjecleaaGreatDoor
namespace Go.Proofs.YticofgmmjecleaaGreatDoor
open Go Go.RowKit
/-- What the loop that puts in the stars has done at place k. -/
def StarSt (T : By) (k : Nat) (q : UInt8) (out : By) : Prop := starF 0 T = out ++ starF q (T.drop k) ∧ out.length ≤ 2 * k ∧ (k = 0 → q = 0) ∧ (0 < k → T[k - 1]? = some q)
theorem StarSt.zero (T : By) : StarSt T 0 0 [] := ⟨rfl, Nat.le_refl _, fun _ => rfl, fun h => absurd h (by omega)⟩
theorem StarSt.fin {T : By} {q : UInt8} {out : By} (h : StarSt T T.length q out) : starF 0 T = out := by
  have := h.1
  rw [List.drop_length] at this
  rw [this]; simp [starF]
theorem starF_plain {q : UInt8} (h : ¬ (48 ≤ q.toNat ∧ q.toNat ≤ 57)) (r : By) : starF q (101 :: r) = 101 :: starF 101 r := by
  show (if (101 : UInt8) = 101 ∧ _ then [42] else []) ++ 101 :: starF 101 r = _
  rw [if_neg (fun e => h e.2)]; rfl
theorem starF_put {q : UInt8} (h : 48 ≤ q.toNat ∧ q.toNat ≤ 57) (r : By) : starF q (101 :: r) = 42 :: 101 :: starF 101 r := by
  show (if (101 : UInt8) = 101 ∧ _ then [42] else []) ++ 101 :: starF 101 r = _
  rw [if_pos ⟨rfl, h⟩]; rfl
theorem StarSt.next {T : By} {k : Nat} {q c : UInt8} {out z : By} (h : StarSt T k q out) (hk : k < T.length) (hc : c = T[k]) (hz : z = [c]) (hs : starF q (c :: T.drop (k + 1)) = c :: starF c (T.drop (k + 1))) : StarSt T (k + 1) c (out ++ z) := by
  obtain ⟨h1, h2, -, -⟩ := h
  refine ⟨?_, by rw [List.length_append, hz]; simp only [List.length_cons, List.length_nil]; omega, fun e => absurd e (by omega), fun _ => by rw [hc]; exact List.getElem?_eq_getElem hk⟩
  rw [h1, List.drop_eq_getElem_cons hk, ← hc, hs, hz]; simp
theorem StarSt.put {T : By} {k : Nat} {q c : UInt8} {out z : By} (h : StarSt T k q out) (hk : k < T.length) (hc : c = T[k]) (hz : z = [c]) (hs : starF q (c :: T.drop (k + 1)) = 42 :: c :: starF c (T.drop (k + 1))) : StarSt T (k + 1) c ((out ++ [42]) ++ z) := by
  obtain ⟨h1, h2, -, -⟩ := h
  refine ⟨?_, by rw [List.length_append, List.length_append, hz]; simp only [List.length_cons, List.length_nil]; omega, fun e => absurd e (by omega), fun _ => by rw [hc]; exact List.getElem?_eq_getElem hk⟩
  rw [h1, List.drop_eq_getElem_cons hk, ← hc, hs, hz]; simp
theorem u8_101 {c : UInt8} (h : c.toNat = 101) : c = 101 := by apply UInt8.toNat_inj.1; rw [h]; rfl
theorem starFacts (T : By) (k : Nat) (q : UInt8) (out : By) (hlt : k < T.length) (hT : T.length ≤ 1281) (h : StarSt T k q out) :
    ∃ (c : UInt8) (z : By), (∀ wx, (Instr.index 9 (.string ⟨T.toArray⟩) (.int .i64 (k : Int))).run Tryz.prog wx = .ok (.int .u8 (c.toNat : Int)) wx) ∧
      (∀ wx, (Instr.slice 9 (.string ⟨T.toArray⟩) (some (.int .i64 (k : Int))) (some (.int .i64 ((k : Int) + 1))) none).run Tryz.prog wx = .ok (.string ⟨z.toArray⟩) wx) ∧
      ((((c.toNat : Int) == 101) = false ∧ (∀ wx, (Op.stringOp .add ⟨out.toArray⟩ ⟨z.toArray⟩).run Tryz.prog wx = .ok (.string ⟨(out ++ z).toArray⟩) wx) ∧ StarSt T (k + 1) c (out ++ z)) ∨
       (((c.toNat : Int) == 101) = true ∧ ¬ 0 < k ∧ (∀ wx, (Op.stringOp .add ⟨out.toArray⟩ ⟨z.toArray⟩).run Tryz.prog wx = .ok (.string ⟨(out ++ z).toArray⟩) wx) ∧ StarSt T (k + 1) c (out ++ z)) ∨
       (((c.toNat : Int) == 101) = true ∧ 0 < k ∧ (∀ wx, (Instr.index 9 (.string ⟨T.toArray⟩) (.int .i64 ((k : Int) - 1))).run Tryz.prog wx = .ok (.int .u8 (q.toNat : Int)) wx) ∧ decide (48 ≤ (q.toNat : Int)) = false ∧ (∀ wx, (Op.stringOp .add ⟨out.toArray⟩ ⟨z.toArray⟩).run Tryz.prog wx = .ok (.string ⟨(out ++ z).toArray⟩) wx) ∧ StarSt T (k + 1) c (out ++ z)) ∨
       (((c.toNat : Int) == 101) = true ∧ 0 < k ∧ (∀ wx, (Instr.index 9 (.string ⟨T.toArray⟩) (.int .i64 ((k : Int) - 1))).run Tryz.prog wx = .ok (.int .u8 (q.toNat : Int)) wx) ∧ decide (48 ≤ (q.toNat : Int)) = true ∧ decide ((q.toNat : Int) ≤ 57) = false ∧ (∀ wx, (Op.stringOp .add ⟨out.toArray⟩ ⟨z.toArray⟩).run Tryz.prog wx = .ok (.string ⟨(out ++ z).toArray⟩) wx) ∧ StarSt T (k + 1) c (out ++ z)) ∨
       (((c.toNat : Int) == 101) = true ∧ 0 < k ∧ (∀ wx, (Instr.index 9 (.string ⟨T.toArray⟩) (.int .i64 ((k : Int) - 1))).run Tryz.prog wx = .ok (.int .u8 (q.toNat : Int)) wx) ∧ decide (48 ≤ (q.toNat : Int)) = true ∧ decide ((q.toNat : Int) ≤ 57) = true ∧ ∃ o2 : By, (∀ wx, (Op.stringOp .add ⟨out.toArray⟩ ⟨#[42]⟩).run Tryz.prog wx = .ok (.string ⟨o2.toArray⟩) wx) ∧ (∀ wx, (Op.stringOp .add ⟨o2.toArray⟩ ⟨z.toArray⟩).run Tryz.prog wx = .ok (.string ⟨(o2 ++ z).toArray⟩) wx) ∧ StarSt T (k + 1) c (o2 ++ z))) := by
  obtain ⟨c, hc⟩ : ∃ c, c = T[k] := ⟨_, rfl⟩
  obtain ⟨z, hz⟩ : ∃ z, z = (T.drop k).take (k + 1 - k) := ⟨_, rfl⟩
  have hz1 : z = [c] := by rw [hz, List.drop_eq_getElem_cons hlt, show k + 1 - k = 1 by omega, hc]; rfl
  have hol : out.length ≤ 2 * k := h.2.1
  have hzl : z.length = 1 := by rw [hz1]; rfl
  refine ⟨c, z, fun wx => by rw [hc]; exact str_at wx T k hlt, fun wx => by rw [hz]; exact str_mid wx T k (k + 1) (by omega) (by omega), ?_⟩
  have hcat : ∀ wx, (Op.stringOp .add ⟨out.toArray⟩ ⟨z.toArray⟩).run Tryz.prog wx = .ok (.string ⟨(out ++ z).toArray⟩) wx := fun wx => cat_big wx out z (by omega)
  by_cases hce : c.toNat = 101
  · have hc1 : c = 101 := u8_101 hce
    have d0 : ((c.toNat : Int) == 101) = true := by rw [beq_iff_eq]; omega
    by_cases hk : k = 0
    · exact .inr (.inl ⟨d0, by omega, hcat, h.next hlt hc hz1 (by rw [hc1, h.2.2.1 hk]; exact starF_plain (by decide) _)⟩)
    · have dk : 0 < k := by omega
      have hkc : (k : Int) - 1 = ((k - 1 : Nat) : Int) := by omega
      have hjl : k - 1 < T.length := by omega
      have hqj : T[k - 1] = q := by
        have := h.2.2.2 (by omega)
        rw [List.getElem?_eq_getElem hjl] at this
        exact Option.some.inj this
      have haq : ∀ wx, (Instr.index 9 (.string ⟨T.toArray⟩) (.int .i64 ((k : Int) - 1))).run Tryz.prog wx = .ok (.int .u8 (q.toNat : Int)) wx := fun wx => by have := str_at wx T (k - 1) hjl; rw [hqj] at this; rw [hkc]; exact this
      by_cases q1 : 48 ≤ q.toNat
      · have e1 : decide (48 ≤ (q.toNat : Int)) = true := decide_eq_true (by omega)
        by_cases q2 : q.toNat ≤ 57
        · have e2 : decide ((q.toNat : Int) ≤ 57) = true := decide_eq_true (by omega)
          refine .inr (.inr (.inr (.inr ⟨d0, dk, haq, e1, e2, out ++ [42], fun wx => cat_big wx out [42] (by simp only [List.length_cons, List.length_nil]; omega), fun wx => cat_big wx _ z (by rw [List.length_append]; simp only [List.length_cons, List.length_nil]; omega), ?_⟩)))
          exact h.put hlt hc hz1 (by rw [hc1]; exact starF_put ⟨q1, q2⟩ _)
        · have e2 : decide ((q.toNat : Int) ≤ 57) = false := decide_eq_false (by omega)
          exact .inr (.inr (.inr (.inl ⟨d0, dk, haq, e1, e2, hcat, h.next hlt hc hz1 (by rw [hc1]; exact starF_plain (fun e => q2 e.2) _)⟩)))
      · have e1 : decide (48 ≤ (q.toNat : Int)) = false := decide_eq_false (by omega)
        exact .inr (.inr (.inl ⟨d0, dk, haq, e1, hcat, h.next hlt hc hz1 (by rw [hc1]; exact starF_plain (fun e => q1 e.1) _)⟩))
  · have d0 : ((c.toNat : Int) == 101) = false := by rw [beq_eq_false_iff_ne]; omega
    exact .inl ⟨d0, hcat, h.next hlt hc hz1 (starF_head (fun e => hce (by rw [e]; rfl)) q _)⟩
theorem termL_len {p : Int} (hP : isP p = true) {n m : Nat} {a : Int} (h0 : 0 ≤ a) (h1 : a < p) (hn : n ≤ 6) : (termL p n m a).length ≤ 10 := by
  have h3 := txtN_len hP h0 h1
  unfold termL
  split
  · omega
  · have h7 : (nameL n m).length ≤ 7 := by unfold nameL; split <;> first | (have := nameTo_len m n; omega) | simp
    have hq : (numP p a).length ≤ 3 := by
      unfold numP
      split
      · simp
      · split
        · simp
        · exact h3
    rw [List.length_append]; omega
theorem textTo_len {p : Int} (hP : isP p = true) {n : Nat} (hn : n ≤ 6) {y : List Int} (hy : NumsL p y) : ∀ k, k ≤ y.length → (textTo p n y k).length ≤ 20 * k
  | 0, _ => Nat.le_refl _
  | k + 1, hk => by
    have ih := textTo_len hP hn hy k (by omega)
    obtain ⟨a0, a1⟩ := hy y[k] (List.getElem_mem (by omega))
    by_cases h : y[k] = 0
    · rw [textTo_step0 (by omega) h]; omega
    · rw [textTo_step1 (by omega) h]
      have ht := termL_len hP (m := k) a0 a1 hn
      unfold stepO
      rw [List.length_append, List.length_append]
      split <;> simp only [List.length_cons, List.length_nil] <;> omega
theorem evR_short {P : Int} {sq : List Int} {t : By} {xs : List Int} (h : (xs, 0) = evR P sq t) : t.length ≤ 200 ∧ valR P sq sq.length t = some xs := by
  unfold evR at h
  split at h
  · exact absurd (congrArg Prod.snd h) (by show (0 : Int) ≠ 3; decide)
  · rename_i hl
    cases hv : valR P sq sq.length t with
    | none => rw [hv] at h; exact absurd (congrArg Prod.snd h) (by show (0 : Int) ≠ 6; decide)
    | some v => rw [hv] at h; exact ⟨by omega, by rw [show xs = v from congrArg Prod.fst h]⟩
theorem evR_val {P : Int} {sq : List Int} {t : By} {xs : List Int} (h : valR P sq sq.length t = some xs) (hl : t.length ≤ 200) : evR P sq t = (xs, 0) := by
  unfold evR
  rw [if_neg (by omega), h]
theorem evalR_val {P : Int} {sq : List Int} {t : By} {xs : List Int} (hsp : isSp P sq = true) (h : valR P sq sq.length t = some xs) (hl : t.length ≤ 200) : evalR P sq t = (xs, 0) := by
  rw [evalR_ev, if_pos hsp, evR_val h hl]
theorem evalR_long {P : Int} {sq : List Int} {t : By} (hsp : isSp P sq = true) (hl : 200 < t.length) : evalR P sq t = ([], 3) := by
  rw [evalR_ev, if_pos hsp]; unfold evR; rw [if_pos hl]
theorem plusL_z1 {p : Int} (hp : 2 ≤ p) {xs : List Int} {m : Nat} (hl : xs.length = m) (h : NumsL p xs) : plusL p (List.replicate m 0) xs 1 = xs := by
  refine list_ext_getD 0 (by rw [plusL_len, List.length_replicate, hl]) fun i hi => ?_
  rw [plusL_len, List.length_replicate] at hi
  rw [plusL_getD _ _ (by rw [List.length_replicate]; exact hi), List.getD_eq_getElem?_getD, List.getElem?_replicate, if_pos hi, getD_of_lt 0 (by omega : i < xs.length)]
  obtain ⟨h0, h1⟩ := h xs[i] (List.getElem_mem _)
  simp only [Option.getD_some]
  rw [show 0 + 1 * xs[i] = xs[i] by omega]
  exact Int.emod_eq_of_lt h0 h1
/-- What the law asks of the values, for texts that are short enough. -/
theorem fx_vals {P : Int} {sq : List Int} {n : Nat} {t out : By} {xs y : List Int} (hsp : isSp P sq = true) (hln : sq.length = n) (hx : MuL P n xs) (hy : MuL P n y) (hxt : valR P sq n t = some xs) (hyo : valR P sq n out = some y) (ho : out.length ≤ 200) (ht : t.length + out.length + 6 ≤ 200) :
    evalR P sq (40 :: (t ++ ([41, 42, 40] ++ (out ++ [41])))) = (mulL P sq xs y, 0) ∧ evalR P sq (40 :: (t ++ ([41, 45, 40] ++ (out ++ [41])))) = (plusL P xs y (-1), 0) ∧ evalR P sq (126 :: 40 :: (t ++ [41])) = (revL P xs, 0) ∧ sumR P sq [t, out] = (plusL P xs y 1, 0) := by
  subst hln
  have hp := isP_ge (isSp_dim hsp).1
  refine ⟨evalR_val hsp (val_times hxt hyo) ?_, evalR_val hsp (val_less hxt hyo) ?_, evalR_val hsp (val_rev hxt) ?_, ?_⟩
  · simp only [List.length_cons, List.length_append, List.length_nil]; omega
  · simp only [List.length_cons, List.length_append, List.length_nil]; omega
  · simp only [List.length_cons, List.length_append, List.length_nil]; omega
  · unfold sumR
    rw [if_pos hsp, if_neg (by simp), if_neg (by simp; omega)]
    have e1 := evR_val hxt (by omega)
    have e2 := evR_val hyo ho
    simp only [sumT, e1, e2, if_true]
    rw [plusL_z1 (by omega) hx.1 hx.2]
theorem fx_cat (t m out : By) (h : t.length + m.length + out.length ≤ 1000) : ∃ t1 t2 t3 t4 : By, (∀ wx, (Op.stringOp .add ⟨#[40]⟩ ⟨t.toArray⟩).run Tryz.prog wx = .ok (.string ⟨t1.toArray⟩) wx) ∧ (∀ wx, (Op.stringOp .add ⟨t1.toArray⟩ ⟨m.toArray⟩).run Tryz.prog wx = .ok (.string ⟨t2.toArray⟩) wx) ∧ (∀ wx, (Op.stringOp .add ⟨t2.toArray⟩ ⟨out.toArray⟩).run Tryz.prog wx = .ok (.string ⟨t3.toArray⟩) wx) ∧ (∀ wx, (Op.stringOp .add ⟨t3.toArray⟩ ⟨#[41]⟩).run Tryz.prog wx = .ok (.string ⟨t4.toArray⟩) wx) ∧ Hid (t4 = 40 :: (t ++ (m ++ (out ++ [41])))) :=
  ⟨[40] ++ t, [40] ++ t ++ m, [40] ++ t ++ m ++ out, [40] ++ t ++ m ++ out ++ [41], fun wx => cat_big wx [40] t (by simp only [List.length_cons, List.length_append, List.length_nil]; omega), fun wx => cat_big wx _ m (by simp only [List.length_cons, List.length_append, List.length_nil]; omega), fun wx => cat_big wx _ out (by simp only [List.length_cons, List.length_append, List.length_nil]; omega), fun wx => cat_big wx _ [41] (by simp only [List.length_cons, List.length_append, List.length_nil]; omega), Lib.hid (by simp)⟩
theorem fx_cat2 (t : By) (h : t.length ≤ 1000) : ∃ t1 t2 : By, (∀ wx, (Op.stringOp .add ⟨#[126, 40]⟩ ⟨t.toArray⟩).run Tryz.prog wx = .ok (.string ⟨t1.toArray⟩) wx) ∧ (∀ wx, (Op.stringOp .add ⟨t1.toArray⟩ ⟨#[41]⟩).run Tryz.prog wx = .ok (.string ⟨t2.toArray⟩) wx) ∧ Hid (t2 = 126 :: 40 :: (t ++ [41])) :=
  ⟨[126, 40] ++ t, [126, 40] ++ t ++ [41], fun wx => cat_big wx [126, 40] t (by simp only [List.length_cons, List.length_append, List.length_nil]; omega), fun wx => cat_big wx _ [41] (by simp only [List.length_cons, List.length_append, List.length_nil]; omega), Lib.hid (by simp)⟩
theorem textL_len {p : Int} (hP : isP p = true) {n : Nat} (hn : n ≤ 6) {y : List Int} (hy : MuL p n y) : (textL p n y).length ≤ 1281 := by
  have h := textTo_len hP hn hy.2 y.length (Nat.le_refl _)
  have h64 : pw n ≤ 64 := pw_le hn
  have hl := hy.1
  unfold textL
  split
  · simp
  · omega
/-- A pointer to a source. -/
def VDc (B : Nat) : VP := ⟨fun v w => ∃ g, v = .pointer (some ⟨g, 0, none⟩) ∧ B ≤ g ∧ Src w g 98, fun _ _ _ ⟨g, e, h1, h2⟩ hb => ⟨g, e, h1, h2.below hb⟩⟩
/-- Some source made since then has been drawn from. -/
def RelX (B : Nat) (w w' : World) : Prop := ∃ g, B ≤ g ∧ Dr g 98 w w'
set_option maxHeartbeats 12800000 in
set_option maxRecDepth 8000 in
theorem FnExpressions_any (B : Option Addr) (nb cb : Nat) (bs : List Int) (w : World) (r : Rd w B nb (bs.map (Value.int .u8))) (hbs : ∀ b ∈ bs, 0 ≤ b ∧ b < 256) (hbg : ∀ a, B = some a → a.block < w.heap.size) (he : EnvX w) :
    Calls Tryz.prog 7 #[.slice B nb cb] w fun e w' => e = .returned (.bool true) ∧ Below w.heap.size w w' := by
  have hbig := big_any B nb cb w
  by_cases hbb : 4096 < nb
  · rw [decide_eq_true hbb] at hbig
    go_enter Tryz.func7, Tryz.ntmps7
    go_wp2_with fail
    refine hbig.mono ?_
    rintro e w1 ⟨rfl, rfl⟩
    go_wp2
    go_ret
    exact ⟨rfl, Below.refl _ _⟩
  · rw [decide_eq_false hbb] at hbig
    have hdr := DrawEvaluateText_any B nb cb bs w (by omega) r hbs hbg
    go_enter Tryz.func7, Tryz.ntmps7
    go_wp2_with fail
    refine hbig.mono ?_
    rintro e w1 ⟨rfl, rfl⟩
    clear hbig
    go_wp2_with fail
    refine hdr.mono ?_
    rintro e w2 ⟨P, A, n, c, sq, t, rfl, hP17, hn7, htl, ho, hb2⟩
    have hA : Below w2.heap.size w2 (w2.alloc (.cells #[.int .i64 P, .slice A n c] 28)) := (Below.refl _ _).alloc (Nat.le_refl _) _
    have k3 : Blk (w2.alloc (.cells #[.int .i64 P, .slice A n c] 28)) w2.heap.size 28 #[.int .i64 P, .slice A n c] := Blk.new _ _ _
    have hB3 := hb2.alloc (o := .cells #[.int .i64 P, .slice A n c] 28) hb2.size
    have o3 := (ho.below hA).rd
    have r3 := r.below (hb2.alloc (o := .cells #[.int .i64 P, .slice A n c] 28) hb2.size)
    have hE : ∀ w', Below w.heap.size w w' → EnvX w' := fun w' h => he.below h (Nat.le_refl _)
    have HE := Lib.hid hE
    clear hE
    obtain ⟨V, hV⟩ : ∃ V, V = evalR P sq t := ⟨_, rfl⟩
    obtain ⟨U, hU⟩ : ∃ U, U = isxR P sq t := ⟨_, rfl⟩
    have hvl := evalR_len P sq t
    rw [← hV] at hvl
    have HV := Lib.hid hV
    have HU := Lib.hid hU
    have hb1 := EvaluateText_any P A n c sq t (w2.alloc (.cells #[.int .i64 P, .slice A n c] 28)) (by omega) o3 (HE.out _ hB3)
    rw [← hV] at hb1
    clear hV hU hA ho hb2
    go_wp2_with fail
    refine hb1.mono ?_
    rintro e w4 ⟨Ax, mx, cx, rfl, hM⟩
    clear hb1
    obtain ⟨w3, hw3⟩ : ∃ W, W = w2.alloc (.cells #[.int .i64 P, .slice A n c] 28) := ⟨_, rfl⟩
    rw [← hw3] at k3 hB3 o3 r3 hM
    clear hw3
    have r_x := hM.rd
    have i_x := hM.2.cap
    have hW := hM.b
    clear hM
    have kk := k3.below hW k3.lt
    obtain ⟨q0, q1⟩ := kk.two
    clear kk
    have hcall := specEvaluateText_any P A n c sq t w4 (by omega) (o3.below hW)
    rw [← HV.out] at hcall
    go_wp2_with fail
    refine hcall.mono ?_
    rintro e w5 ⟨Az, mz, cz, rfl, hM⟩
    replace r_x := r_x.below hM.b
    have r_z := hM.rd
    replace hW := hW.trans (hM.b.mono hW.size)
    clear hM
    clear hcall q0 q1
    have kk := k3.below hW k3.lt
    obtain ⟨q0, q1⟩ := kk.two
    clear kk
    have hcall := IsExpression_any P A n c sq t w5 (by omega) (o3.below hW) (HE.out _ (hB3.trans (hW.mono hB3.size)))
    rw [← HU.out] at hcall
    go_wp2_with fail
    refine hcall.mono ?_
    rintro e w6 ⟨rfl, hb7⟩
    replace r_x := r_x.below hb7
    replace r_z := r_z.below hb7
    replace hW := hW.trans (hb7.mono hW.size)
    clear hcall q0 q1
    have kk := k3.below hW k3.lt
    obtain ⟨q0, q1⟩ := kk.two
    clear kk
    have hcall := specIsExpression_any P A n c sq t w6 (by omega) (o3.below hW)
    rw [← HU.out] at hcall
    go_wp2_with fail
    refine hcall.mono ?_
    rintro e w7 ⟨rfl, hb7⟩
    replace r_x := r_x.below hb7
    replace r_z := r_z.below hb7
    replace hW := hW.trans (hb7.mono hW.size)
    clear hcall q0 q1
    have kk := k3.below hW k3.lt
    obtain ⟨q0, q1⟩ := kk.two
    clear kk
    have lx := r_x.lenI
    have lz := r_z.lenI
    have hcall := likeInts_any Ax Az mx mz cx cz _ _ w7 (by omega) (by omega) r_x r_z
    rw [decide_eq_true rfl] at hcall
    have e0 : (V.2 != V.2) = false := by simp
    have e1 : (U.2 != U.2) = false := by simp
    have e2 : (U.1 != U.1) = false := by simp
    have HLX := Lib.hid lx
    clear lx lz hvl
    go_wp2_with fail
    refine hcall.mono ?_
    rintro e w8 ⟨rfl, j1, hw9⟩
    have hb7 := below_drewN (Below.refl w7.heap.size w7) j1
    rw [← hw9] at hb7
    replace r_x := r_x.below hb7
    replace r_z := r_z.below hb7
    replace hW := hW.trans (hb7.mono hW.size)
    clear hcall q0 q1 hb7 hw9 e0 e1 e2 r_z
    cases hsp : isSp P sq
    · have hv : V = ([], 1) := by rw [HV.out, evalR_ev, hsp]; rfl
      have hu : U = (false, 1) := by rw [HU.out]; unfold isxR; rw [hsp]; rfl
      clear hsp HV HU
      subst hv
      subst hu
      dsimp only
      go_wp2
      go_ret
      exact ⟨rfl, hB3.trans (hW.mono hB3.size)⟩
    obtain ⟨hP, hd1, hd2, hnum⟩ := isSp_dim hsp
    have hln : sq.length = n := o3.lenI
    have hge := isP_ge hP
    have hv : V = evR P sq t := by rw [HV.out, evalR_ev, hsp]; rfl
    have hu : U = ((evR P sq t).2 == 0, 0) := by rw [HU.out]; unfold isxR; rw [hsp]; rfl
    have hmu := evR_mu (P := P) (sq := sq) (by omega) t
    rw [← hv] at hu hmu
    have HEV := Lib.hid hv
    obtain ⟨xs, one⟩ := V
    subst hu
    dsimp only at hmu HLX r_x ⊢
    clear hv HV HU
    have HSP := Lib.hid hsp
    have HP := Lib.hid hP
    have HN := Lib.hid hnum
    have HLN := Lib.hid hln
    rw [hln] at hd1 hd2 hmu
    clear hsp hP hnum hln
    rcases hmu with ⟨hc, hx⟩ | ⟨hc, hx⟩
    rotate_left
    · have c0 : (one == 0) = false := by simpa using hc
      rw [c0]
      clear hx hc HEV
      go_wp2
      go_ret
      exact ⟨rfl, hB3.trans (hW.mono hB3.size)⟩
    subst hc
    have HX := Lib.hid hx
    have HMX : Hid (mx = pw n) := Lib.hid (by rw [← HLX.out]; exact hx.1)
    clear hx
    have hmx := HMX.out
    subst hmx
    clear HMX HLX
    have kk := k3.below hW k3.lt
    have r10 := r3.below hW
    have hbg10 : ∀ a, B = some a → a.block < w8.heap.size := fun a e => Nat.lt_of_lt_of_le (hbg a e) (Nat.le_trans hB3.size hW.size)
    have HBS := Lib.hid hbs
    have hpw : pw n ≤ 64 := pw_le hd2
    obtain ⟨q0, q1⟩ := kk.two
    go_wp2
    refine wp_obsR 8 (RelX w8.heap.size) [[], [0], [], [2], [], [4], [0, 1, 2, 3, 4, 5], [0, 1, 2, 3, 4, 5, 6]] [[], [], [], [], [], [], [1], []] (fun x => [VIs (.slice B nb cb), VDc w8.heap.size, VIs (.agg #[.int .i64 P, .slice A n c]), VIs (.int .i64 (pw n)), VIs (.pointer (some ⟨w2.heap.size, 0, none⟩)), VIs (.int .i64 (P)), VLs w8.heap.size (pw n) P, VLs w8.heap.size (pw n) P]) (fun w' => Blk w' w2.heap.size 28 #[.int .i64 P, .slice A n c] ∧ Below w8.heap.size w8 w') (by kernel_rfl) (by kernel_rfl) (fun x x' j hx => by
        rcases j with _ | _ | _ | _ | _ | _ | _ | _ | j
        · rfl
        · rfl
        · rfl
        · rfl
        · rfl
        · rfl
        · rfl
        · rfl
        · rfl)
      (weak_ofR [0, 2, 3, 4, 5, 6, 7] (by decide) (fun k hk x v w w' hp hr => by
        simp only [List.mem_cons, List.not_mem_nil, or_false] at hk
        rcases hk with rfl | rfl | rfl | rfl | rfl | rfl | rfl
        · exact hp
        · exact hp
        · exact hp
        · exact hp
        · exact hp
        · obtain ⟨g, h1, hd⟩ := hr; exact VLs.dr hp hd (by decide)
        · obtain ⟨g, h1, hd⟩ := hr; exact VLs.dr hp hd (by decide))) (fun j _ _ h hb => hb.either (fun hb => ⟨h.1.below hb h.1.lt, h.2.trans (hb.mono h.2.size)⟩) (fun ⟨g, h1, hd⟩ => ⟨h.1.dr hd (by decide), h.2.trans (hd.b.mono h1)⟩)) (⟨kk.drew, (Below.refl _ _).drew⟩) (fun x => ?_)
    refine obs_stepR (Eq.trans (by simp only [List.getElem?_toArray, List.getElem?_cons_zero]; exact rfl) rfl) rfl (fun w' hS hV K hK => ?_) ?_
    · obtain ⟨q0, q1⟩ := hS.1.two
      go_simp
      exact hK.out _ _ _ rfl rfl rfl (Below.refl _ _)
    simp only [List.setIfInBounds_toArray, List.set_cons_zero, List.set_cons_succ]
    refine obs_stepR (Eq.trans (by simp only [List.getElem?_toArray, List.getElem?_cons_succ, List.getElem?_cons_zero]; exact rfl) rfl) rfl (fun w' hS hV K hK => ?_) ?_
    · have e0 : x 0 = (.slice B nb cb) := hV 0 (by decide)
      obtain ⟨q0, q1⟩ := hS.1.two
      go_simp
      refine (roll_any B nb cb bs 847 w' (by omega) (r10.below hS.2) HBS.out (fun a e => Nat.lt_of_lt_of_le (hbg10 a e) hS.2.size)).mono ?_
      rintro e v1 ⟨g, rfl, hg, hs, hb⟩
      exact hK.out _ _ _ rfl rfl ⟨g, rfl, Nat.le_trans hS.2.size hg, hs⟩ hb
    simp only [List.setIfInBounds_toArray, List.set_cons_zero, List.set_cons_succ]
    refine obs_stepR (Eq.trans (by simp only [List.getElem?_toArray, List.getElem?_cons_succ, List.getElem?_cons_zero]; exact rfl) rfl) rfl (fun w' hS hV K hK => ?_) ?_
    · obtain ⟨q0, q1⟩ := hS.1.two
      go_simp
      exact hK.out _ _ _ rfl rfl rfl (Below.refl _ _)
    simp only [List.setIfInBounds_toArray, List.set_cons_zero, List.set_cons_succ]
    refine obs_stepR (Eq.trans (by simp only [List.getElem?_toArray, List.getElem?_cons_succ, List.getElem?_cons_zero]; exact rfl) rfl) rfl (fun w' hS hV K hK => ?_) ?_
    · have e2 : x 2 = (.agg #[.int .i64 P, .slice A n c]) := hV 2 (by decide)
      obtain ⟨q0, q1⟩ := hS.1.two
      go_simp
      refine (size5_any P A n c w' (by omega)).mono ?_
      rintro e v1 ⟨rfl, hb⟩
      exact hK.out _ _ _ rfl rfl rfl hb
    simp only [List.setIfInBounds_toArray, List.set_cons_zero, List.set_cons_succ]
    refine obs_stepR (Eq.trans (by simp only [List.getElem?_toArray, List.getElem?_cons_succ, List.getElem?_cons_zero]; exact rfl) rfl) rfl (fun w' hS hV K hK => ?_) ?_
    · obtain ⟨q0, q1⟩ := hS.1.two
      go_simp
      exact hK.out _ _ _ rfl rfl rfl (Below.refl _ _)
    simp only [List.setIfInBounds_toArray, List.set_cons_zero, List.set_cons_succ]
    refine obs_stepR (Eq.trans (by simp only [List.getElem?_toArray, List.getElem?_cons_succ, List.getElem?_cons_zero]; exact rfl) rfl) rfl (fun w' hS hV K hK => ?_) ?_
    · have e4 : x 4 = (.pointer (some ⟨w2.heap.size, 0, none⟩)) := hV 4 (by decide)
      obtain ⟨q0, q1⟩ := hS.1.two
      go_simp
      exact hK.out _ _ _ rfl rfl rfl (Below.refl _ _)
    simp only [List.setIfInBounds_toArray, List.set_cons_zero, List.set_cons_succ]
    refine obs_stepR (Eq.trans (by simp only [List.getElem?_toArray, List.getElem?_cons_succ, List.getElem?_cons_zero]; exact rfl) rfl) rfl (fun w' hS hV K hK => ?_) ?_
    · have e0 : x 0 = (.slice B nb cb) := hV 0 (by decide)
      obtain ⟨g9, e1, hg9, s9⟩ := hV 1 (by decide)
      have e2 : x 2 = (.agg #[.int .i64 P, .slice A n c]) := hV 2 (by decide)
      have e3 : x 3 = (.int .i64 (pw n)) := hV 3 (by decide)
      have e4 : x 4 = (.pointer (some ⟨w2.heap.size, 0, none⟩)) := hV 4 (by decide)
      have e5 : x 5 = (.int .i64 (P)) := hV 5 (by decide)
      obtain ⟨q0, q1⟩ := hS.1.two
      go_simp
      refine (belowList_any g9 P (pw n) w' s9 (by omega) (by omega)).mono ?_
      rintro e v1 ⟨A9, c9, xs9, rfl, hl9, hx9, ho9, hd9⟩
      exact hK.out _ _ _ rfl rfl ⟨_, _, xs9, rfl, hl9, nums_of (by omega) hx9, ho9.base hS.2.size⟩ (StepR.rel rfl ⟨g9, hg9, hd9⟩)
    simp only [List.setIfInBounds_toArray, List.set_cons_zero, List.set_cons_succ]
    refine obs_stepR (Eq.trans (by simp only [List.getElem?_toArray, List.getElem?_cons_succ, List.getElem?_cons_zero]; exact rfl) rfl) rfl (fun w' hS hV K hK => ?_) ?_
    · have e0 : x 0 = (.slice B nb cb) := hV 0 (by decide)
      have e2 : x 2 = (.agg #[.int .i64 P, .slice A n c]) := hV 2 (by decide)
      have e3 : x 3 = (.int .i64 (pw n)) := hV 3 (by decide)
      have e4 : x 4 = (.pointer (some ⟨w2.heap.size, 0, none⟩)) := hV 4 (by decide)
      have e5 : x 5 = (.int .i64 (P)) := hV 5 (by decide)
      obtain ⟨A6, c6, X6, e6, l6, u6, h6⟩ := hV 6 (by decide)
      obtain ⟨q0, q1⟩ := hS.1.two
      go_simp
      exact hK.out _ _ _ rfl rfl ⟨_, _, _, rfl, l6, u6, h6⟩ (Below.refl _ _)
    simp only [List.setIfInBounds_toArray, List.set_cons_zero, List.set_cons_succ]
    refine fun w' hS hV => ?_
    have e0 : x 0 = (.slice B nb cb) := hV 0 (by decide)
    have e2 : x 2 = (.agg #[.int .i64 P, .slice A n c]) := hV 2 (by decide)
    have e3 : x 3 = (.int .i64 (pw n)) := hV 3 (by decide)
    have e4 : x 4 = (.pointer (some ⟨w2.heap.size, 0, none⟩)) := hV 4 (by decide)
    have e5 : x 5 = (.int .i64 (P)) := hV 5 (by decide)
    obtain ⟨A6, c6, X6, e6, l6, u6, h6⟩ := hV 6 (by decide)
    obtain ⟨A7, c7, X7, e7, l7, u7, h7⟩ := hV 7 (by decide)
    simp only [e0, e2, e3, e4, e5, e6, e7]
    clear e0 e2 e3 e4 e5 e6 e7
    refine wpAny_done (by kernel_rfl) ?_ _
    obtain ⟨w10, rfl⟩ : ∃ W, W = w' := ⟨_, rfl⟩
    have hb7 := hS.2
    clear hS kk q0 q1
    have r_y := h7.rd
    have i_y := h7.cap
    have HY : Hid (MuL P n X7) := Lib.hid ⟨l7, u7⟩
    obtain ⟨y, hy⟩ : ∃ y, y = X7 := ⟨_, rfl⟩
    rw [← hy] at r_y HY
    clear h7 l7 u7 hy
    obtain ⟨Ay, hAy⟩ : ∃ a, a = A7 := ⟨_, rfl⟩
    obtain ⟨cy, hcy⟩ : ∃ a, a = c7 := ⟨_, rfl⟩
    rw [← hAy] at r_y ⊢
    rw [← hcy] at i_y ⊢
    clear hAy hcy r10 hbg10 hV
    replace r_x := r_x.below hb7
    replace hW := hW.trans (hb7.mono hW.size)
    clear hb7
    have hcm : codeM P sq [y] = 0 := by
      rw [codeM_mk HSP.out]
      exact all_one ⟨by rw [HLN.out]; exact HY.out.1, HY.out.2⟩
    have kk := k3.below hW k3.lt
    obtain ⟨q0, q1⟩ := kk.two
    clear kk
    have hcall := MultivectorText_ok P A n c sq Ay (pw n) cy y w10 (by omega) (by omega) (o3.below hW) r_y i_y hcm HY.out.2 (HE.out _ (hB3.trans (hW.mono hB3.size))).e
    go_wp2_with fail
    refine hcall.mono ?_
    rintro e w11 ⟨rfl, hb7⟩
    replace r_x := r_x.below hb7
    replace r_y := r_y.below hb7
    replace hW := hW.trans (hb7.mono hW.size)
    clear hcall q0 q1
    clear hcm
    obtain ⟨T, hT⟩ : ∃ T, T = textL P n y := ⟨_, rfl⟩
    have HT := Lib.hid hT
    rw [← hT]
    clear hT
    have htl2 := textL_len HP.out hd2 HY.out
    rw [← HT.out] at htl2
    have HTL := Lib.hid htl2
    clear htl2
    go_wp2
    go_loopw [16, 17] (fun ov iv wr => ∃ (k : Nat) (q : UInt8) (out : By), k ≤ T.length ∧ iv = .int .i64 (k : Int) ∧ ov = .string ⟨out.toArray⟩ ∧ StarSt T k q out ∧ Below w11.heap.size w11 wr) (fun _ iv _ => T.length - (intOf iv).toNat)
    case atStart => exact ⟨0, 0, [], Nat.zero_le _, rfl, rfl, StarSt.zero T, Below.refl _ _⟩
    case round =>
      obtain ⟨k, q, out, hk, rfl, rfl, hst, hbl⟩ := hrel
      have hln := fun wx ty => str_len wx ty T
      by_cases hlt : k < T.length
      · have dlt : decide ((k : Int) < (T.length : Int)) = true := decide_eq_true (by omega)
        have hkb : k < 1281 := by have := HTL.out; omega
        obtain ⟨c, z, hat, fm, hcs⟩ := starFacts T k q out hlt HTL.out hst
        rcases hcs with ⟨d0, hc3, hn⟩ | ⟨d0, hk0, hc3, hn⟩ | ⟨d0, dk, haq, dq, hc3, hn⟩ | ⟨d0, dk, haq, dq, dq2, hc3, hn⟩ | ⟨d0, dk, haq, dq, dq2, o2, hc4, hc3, hn⟩
        · clear hst
          go_wp2
          go_roundw
          case rel =>
            go_light
            exact ⟨k + 1, c, _, by omega, by go_num, rfl, hn, hbl⟩
          case measure =>
            go_light
            simp [intOf]; omega
        · clear hst
          go_wp2
          go_roundw
          case rel =>
            go_light
            exact ⟨k + 1, c, _, by omega, by go_num, rfl, hn, hbl⟩
          case measure =>
            go_light
            simp [intOf]; omega
        · clear hst
          go_wp2
          go_roundw
          case rel =>
            go_light
            exact ⟨k + 1, c, _, by omega, by go_num, rfl, hn, hbl⟩
          case measure =>
            go_light
            simp [intOf]; omega
        · clear hst
          go_wp2
          go_roundw
          case rel =>
            go_light
            exact ⟨k + 1, c, _, by omega, by go_num, rfl, hn, hbl⟩
          case measure =>
            go_light
            simp [intOf]; omega
        · clear hst
          go_wp2
          go_roundw
          case rel =>
            go_light
            exact ⟨k + 1, c, _, by omega, by go_num, rfl, hn, hbl⟩
          case measure =>
            go_light
            simp [intOf]; omega
      · obtain rfl : k = T.length := by go_light; omega
        have hoo := hst.fin
        clear hst hln hk hlt
        have r_x := r_x.below hbl
        have r_y := r_y.below hbl
        have hW := hW.trans (hbl.mono hW.size)
        clear hbl
        obtain ⟨htl2, hxt⟩ := evR_short HEV.out
        have hyo := val_star HP.out HLN.out hd2 HY.out
        rw [← HT.out, hoo] at hyo
        rw [HLN.out] at hxt
        have HYO := Lib.hid hyo
        have HXT := Lib.hid hxt
        clear hoo hyo hxt
        have hlo := fun wx ty => str_len wx ty out
        have hlt0 := fun wx ty => str_len wx ty t
        by_cases hO : 200 < out.length
        · have hvo := evalR_long HSP.out hO
          have kk := k3.below hW k3.lt
          obtain ⟨q0, q1⟩ := kk.two
          clear kk
          have hcall := EvaluateText_any P A n c sq out wr (by omega) (o3.below hW) (HE.out _ (hB3.trans (hW.mono hB3.size)))
          rw [hvo] at hcall
          dsimp only at hcall
          go_wp2_with fail
          refine hcall.mono ?_
          rintro e w12 ⟨Ao, mo, co, rfl, hM⟩
          replace r_x := r_x.below hM.b
          replace r_y := r_y.below hM.b
          replace hW := hW.trans (hM.b.mono hW.size)
          clear hM
          clear hcall q0 q1
          go_wp2
          go_ret
          exact ⟨rfl, hB3.trans (hW.mono hB3.size)⟩
        have hvo : evalR P sq out = (y, 0) := evalR_val HSP.out (by rw [HLN.out]; exact HYO.out) (by omega)
        have kk := k3.below hW k3.lt
        obtain ⟨q0, q1⟩ := kk.two
        clear kk
        have hcall := EvaluateText_any P A n c sq out wr (by omega) (o3.below hW) (HE.out _ (hB3.trans (hW.mono hB3.size)))
        rw [hvo] at hcall
        dsimp only at hcall
        go_wp2_with fail
        refine hcall.mono ?_
        rintro e w12 ⟨Ao, mo, co, rfl, hM⟩
        replace r_x := r_x.below hM.b
        replace r_y := r_y.below hM.b
        obtain rfl : mo = pw n := by rw [← hM.rd.lenI]; exact HY.out.1
        have r_o := hM.rd
        replace hW := hW.trans (hM.b.mono hW.size)
        clear hM hvo
        clear hcall q0 q1
        have kk := k3.below hW k3.lt
        obtain ⟨q0, q1⟩ := kk.two
        clear kk
        have hcall := likeInts_any Ao Ay (pw n) (pw n) co cy y y w12 (by omega) (by omega) r_o r_y
        rw [decide_eq_true rfl] at hcall
        go_wp2_with fail
        refine hcall.mono ?_
        rintro e w13 ⟨rfl, jj, hw9⟩
        have hb7 := below_drewN (Below.refl w12.heap.size w12) jj
        rw [← hw9] at hb7
        replace r_x := r_x.below hb7
        replace r_y := r_y.below hb7
        replace r_o := r_o.below hb7
        replace hW := hW.trans (hb7.mono hW.size)
        clear hcall q0 q1 hb7 hw9
        clear r_o
        by_cases hS : 200 < t.length + out.length + 6
        · go_wp2
          go_ret
          exact ⟨rfl, hB3.trans (hW.mono hB3.size)⟩
        have HVS := Lib.hid (fx_vals HSP.out HLN.out HX.out HY.out HXT.out HYO.out (by omega) (by omega))
        obtain ⟨a1, a2, a3, a4, f1, f2, f3, f4, HA⟩ := fx_cat t [41, 42, 40] out (by simp only [List.length_cons, List.length_nil]; omega)
        have hva : evalR P sq a4 = (mulL P sq xs y, 0) := by rw [HA.out]; exact HVS.out.1
        have kk := k3.below hW k3.lt
        obtain ⟨q0, q1⟩ := kk.two
        clear kk
        have hcall := EvaluateText_any P A n c sq a4 w13 (by omega) (o3.below hW) (HE.out _ (hB3.trans (hW.mono hB3.size)))
        rw [hva] at hcall
        dsimp only at hcall
        go_wp2_with fail
        refine hcall.mono ?_
        rintro e w14 ⟨Aa, ma, ca, rfl, hM⟩
        replace r_x := r_x.below hM.b
        replace r_y := r_y.below hM.b
        obtain rfl : ma = pw n := by rw [← hM.rd.lenI]; exact mulL_len _ _ _ _ |>.trans HX.out.1
        have r_a := hM.rd
        replace hW := hW.trans (hM.b.mono hW.size)
        clear hM hva f1 f2 f3 f4 HA
        clear hcall q0 q1
        obtain ⟨b1, b2, b3, b4, f1, f2, f3, f4, HB⟩ := fx_cat t [41, 45, 40] out (by simp only [List.length_cons, List.length_nil]; omega)
        have hvb : evalR P sq b4 = (plusL P xs y (-1), 0) := by rw [HB.out]; exact HVS.out.2.1
        have kk := k3.below hW k3.lt
        obtain ⟨q0, q1⟩ := kk.two
        clear kk
        have hcall := EvaluateText_any P A n c sq b4 w14 (by omega) (o3.below hW) (HE.out _ (hB3.trans (hW.mono hB3.size)))
        rw [hvb] at hcall
        dsimp only at hcall
        go_wp2_with fail
        refine hcall.mono ?_
        rintro e w15 ⟨Ab, mb, cb2, rfl, hM⟩
        replace r_x := r_x.below hM.b
        replace r_y := r_y.below hM.b
        replace r_a := r_a.below hM.b
        obtain rfl : mb = pw n := by rw [← hM.rd.lenI]; exact (plusL_len _ _ _ _).trans HX.out.1
        have r_b := hM.rd
        replace hW := hW.trans (hM.b.mono hW.size)
        clear hM hvb f1 f2 f3 f4 HB
        clear hcall q0 q1
        obtain ⟨d1, d2, f1, f2, HD⟩ := fx_cat2 t (by omega)
        have hvd : evalR P sq d2 = (revL P xs, 0) := by rw [HD.out]; exact HVS.out.2.2.1
        have kk := k3.below hW k3.lt
        obtain ⟨q0, q1⟩ := kk.two
        clear kk
        have hcall := EvaluateText_any P A n c sq d2 w15 (by omega) (o3.below hW) (HE.out _ (hB3.trans (hW.mono hB3.size)))
        rw [hvd] at hcall
        dsimp only at hcall
        go_wp2_with fail
        refine hcall.mono ?_
        rintro e w16 ⟨Ad, md, cd, rfl, hM⟩
        replace r_x := r_x.below hM.b
        replace r_y := r_y.below hM.b
        replace r_a := r_a.below hM.b
        replace r_b := r_b.below hM.b
        obtain rfl : md = pw n := by rw [← hM.rd.lenI]; exact (sgnL_len _ _ _).trans HX.out.1
        have r_d := hM.rd
        replace hW := hW.trans (hM.b.mono hW.size)
        clear hM hvd f1 f2 HD
        clear hcall q0 q1
        have hcm : codeM P sq [xs] = 0 := by
          rw [codeM_mk HSP.out]
          exact all_one ⟨by rw [HLN.out]; exact HX.out.1, HX.out.2⟩
        have kk := k3.below hW k3.lt
        obtain ⟨q0, q1⟩ := kk.two
        clear kk
        have hcall := ReverseOf_ok P A n c sq Ax (pw n) cx xs w16 (by omega) (by omega) (o3.below hW) r_x i_x hcm
        go_wp2_with fail
        refine hcall.mono ?_
        rintro e w17 ⟨Ar, cr, rfl, hM⟩
        replace r_x := r_x.below hM.b
        replace r_y := r_y.below hM.b
        replace r_a := r_a.below hM.b
        replace r_b := r_b.below hM.b
        replace r_d := r_d.below hM.b
        have r_r := hM.rd
        replace hW := hW.trans (hM.b.mono hW.size)
        clear hM hcm
        clear hcall q0 q1
        have hvs : sumR P sq [t, out] = (plusL P xs y 1, 0) := HVS.out.2.2.2
        have hBx : Below w17.heap.size w17 (w17.alloc (.cells #[.string ⟨t.toArray⟩, .string ⟨out.toArray⟩] 9)) := (Below.refl _ _).alloc (Nat.le_refl _) _
        have hRx : Rd (w17.alloc (.cells #[.string ⟨t.toArray⟩, .string ⟨out.toArray⟩] 9)) (some ⟨w17.heap.size, 0, none⟩) 2 (txts [t, out]) := (Mk.lit (w0 := w17) (E := 9) (Below.refl w17.heap.size w17) #[.string ⟨t.toArray⟩, .string ⟨out.toArray⟩] (by simp [maxLen])).rd
        have kk := k3.below hW k3.lt
        obtain ⟨q0, q1⟩ := kk.two
        clear kk
        have hcall := SumOfTexts_any P A n c sq (some ⟨w17.heap.size, 0, none⟩) 2 2 [t, out] (w17.alloc (.cells #[.string ⟨t.toArray⟩, .string ⟨out.toArray⟩] 9)) (by omega) (by omega) ((o3.below hW).below hBx) hRx (by intro u hu; simp only [List.mem_cons, List.not_mem_nil, or_false] at hu; rcases hu with rfl | rfl <;> omega) (HE.out _ ((hB3.trans (hW.mono hB3.size)).trans (hBx.mono (hB3.trans (hW.mono hB3.size)).size)))
        rw [hvs] at hcall
        dsimp only at hcall
        go_wp2_with fail
        refine hcall.mono ?_
        rintro e w18 ⟨As, ms, cs, rfl, hM⟩
        replace r_x := r_x.below (hBx.trans (hM.b.mono hBx.size))
        replace r_y := r_y.below (hBx.trans (hM.b.mono hBx.size))
        replace r_a := r_a.below (hBx.trans (hM.b.mono hBx.size))
        replace r_b := r_b.below (hBx.trans (hM.b.mono hBx.size))
        replace r_d := r_d.below (hBx.trans (hM.b.mono hBx.size))
        replace r_r := r_r.below (hBx.trans (hM.b.mono hBx.size))
        obtain rfl : ms = pw n := by rw [← hM.rd.lenI]; exact (plusL_len _ _ _ _).trans HX.out.1
        have r_s := hM.rd
        replace hW := hW.trans ((hBx.trans (hM.b.mono hBx.size)).mono hW.size)
        clear hM hvs hBx hRx
        clear hcall q0 q1
        have hcm : codeM P sq [xs, y] = 0 := by
          rw [codeM_mk HSP.out]
          intro us hu
          simp only [List.mem_cons, List.not_mem_nil, or_false] at hu
          rw [HLN.out]
          rcases hu with rfl | rfl
          · exact HX.out
          · exact HY.out
        have kk := k3.below hW k3.lt
        obtain ⟨q0, q1⟩ := kk.two
        clear kk
        have hcall := times5_ok P A n c sq Ax (pw n) cx xs Ay (pw n) cy y w18 (by omega) (by omega) (by omega) (o3.below hW) r_x i_x r_y i_y hcm
        go_wp2_with fail
        refine hcall.mono ?_
        rintro e w19 ⟨At, ct, rfl, hM⟩
        replace r_x := r_x.below hM.b
        replace r_y := r_y.below hM.b
        replace r_a := r_a.below hM.b
        replace r_b := r_b.below hM.b
        replace r_d := r_d.below hM.b
        replace r_r := r_r.below hM.b
        replace r_s := r_s.below hM.b
        have r_t := hM.rd
        replace hW := hW.trans (hM.b.mono hW.size)
        clear hM hcm
        clear hcall q0 q1
        have kk := k3.below hW k3.lt
        obtain ⟨q0, q1⟩ := kk.two
        clear kk
        have hcall := likeInts_any Aa At (pw n) (pw n) ca ct (mulL P sq xs y) (mulL P sq xs y) w19 (by omega) (by omega) r_a r_t
        rw [decide_eq_true rfl] at hcall
        go_wp2_with fail
        refine hcall.mono ?_
        rintro e w20 ⟨rfl, jj, hw9⟩
        have hb7 := below_drewN (Below.refl w19.heap.size w19) jj
        rw [← hw9] at hb7
        replace r_x := r_x.below hb7
        replace r_y := r_y.below hb7
        replace r_a := r_a.below hb7
        replace r_b := r_b.below hb7
        replace r_d := r_d.below hb7
        replace r_r := r_r.below hb7
        replace r_s := r_s.below hb7
        replace r_t := r_t.below hb7
        replace hW := hW.trans (hb7.mono hW.size)
        clear hcall q0 q1 hb7 hw9
        have kk := k3.below hW k3.lt
        obtain ⟨q0, q1⟩ := kk.two
        clear kk
        have hcall := plus5_any P Ax (pw n) cx Ay cy (-1) xs y w20 (by omega) (by omega) (by omega) r_x HX.out.2 r_y HY.out.2 (by omega) (by omega)
        go_wp2_with fail
        refine hcall.mono ?_
        rintro e w21 ⟨Au, cu, rfl, hM⟩
        replace r_x := r_x.below hM.b
        replace r_y := r_y.below hM.b
        replace r_a := r_a.below hM.b
        replace r_b := r_b.below hM.b
        replace r_d := r_d.below hM.b
        replace r_r := r_r.below hM.b
        replace r_s := r_s.below hM.b
        replace r_t := r_t.below hM.b
        have r_u := hM.rd
        replace hW := hW.trans (hM.b.mono hW.size)
        clear hM
        clear hcall q0 q1
        have kk := k3.below hW k3.lt
        obtain ⟨q0, q1⟩ := kk.two
        clear kk
        have hcall := likeInts_any Ab Au (pw n) (pw n) cb2 cu (plusL P xs y (-1)) (plusL P xs y (-1)) w21 (by omega) (by omega) r_b r_u
        rw [decide_eq_true rfl] at hcall
        go_wp2_with fail
        refine hcall.mono ?_
        rintro e w22 ⟨rfl, jj, hw9⟩
        have hb7 := below_drewN (Below.refl w21.heap.size w21) jj
        rw [← hw9] at hb7
        replace r_x := r_x.below hb7
        replace r_y := r_y.below hb7
        replace r_a := r_a.below hb7
        replace r_b := r_b.below hb7
        replace r_d := r_d.below hb7
        replace r_r := r_r.below hb7
        replace r_s := r_s.below hb7
        replace r_t := r_t.below hb7
        replace r_u := r_u.below hb7
        replace hW := hW.trans (hb7.mono hW.size)
        clear hcall q0 q1 hb7 hw9
        have kk := k3.below hW k3.lt
        obtain ⟨q0, q1⟩ := kk.two
        clear kk
        have hcall := likeInts_any Ad Ar (pw n) (pw n) cd cr (revL P xs) (revL P xs) w22 (by omega) (by omega) r_d r_r
        rw [decide_eq_true rfl] at hcall
        go_wp2_with fail
        refine hcall.mono ?_
        rintro e w23 ⟨rfl, jj, hw9⟩
        have hb7 := below_drewN (Below.refl w22.heap.size w22) jj
        rw [← hw9] at hb7
        replace r_x := r_x.below hb7
        replace r_y := r_y.below hb7
        replace r_a := r_a.below hb7
        replace r_b := r_b.below hb7
        replace r_d := r_d.below hb7
        replace r_r := r_r.below hb7
        replace r_s := r_s.below hb7
        replace r_t := r_t.below hb7
        replace r_u := r_u.below hb7
        replace hW := hW.trans (hb7.mono hW.size)
        clear hcall q0 q1 hb7 hw9
        have kk := k3.below hW k3.lt
        obtain ⟨q0, q1⟩ := kk.two
        clear kk
        have hcall := plus5_any P Ax (pw n) cx Ay cy 1 xs y w23 (by omega) (by omega) (by omega) r_x HX.out.2 r_y HY.out.2 (by omega) (by omega)
        go_wp2_with fail
        refine hcall.mono ?_
        rintro e w24 ⟨Av, cv, rfl, hM⟩
        replace r_x := r_x.below hM.b
        replace r_y := r_y.below hM.b
        replace r_a := r_a.below hM.b
        replace r_b := r_b.below hM.b
        replace r_d := r_d.below hM.b
        replace r_r := r_r.below hM.b
        replace r_s := r_s.below hM.b
        replace r_t := r_t.below hM.b
        replace r_u := r_u.below hM.b
        have r_v := hM.rd
        replace hW := hW.trans (hM.b.mono hW.size)
        clear hM
        clear hcall q0 q1
        have kk := k3.below hW k3.lt
        obtain ⟨q0, q1⟩ := kk.two
        clear kk
        have hcall := likeInts_any As Av (pw n) (pw n) cs cv (plusL P xs y 1) (plusL P xs y 1) w24 (by omega) (by omega) r_s r_v
        rw [decide_eq_true rfl] at hcall
        go_wp2_with fail
        refine hcall.mono ?_
        rintro e w25 ⟨rfl, jj, hw9⟩
        have hb7 := below_drewN (Below.refl w24.heap.size w24) jj
        rw [← hw9] at hb7
        replace r_x := r_x.below hb7
        replace r_y := r_y.below hb7
        replace r_a := r_a.below hb7
        replace r_b := r_b.below hb7
        replace r_d := r_d.below hb7
        replace r_r := r_r.below hb7
        replace r_s := r_s.below hb7
        replace r_t := r_t.below hb7
        replace r_u := r_u.below hb7
        replace r_v := r_v.below hb7
        replace hW := hW.trans (hb7.mono hW.size)
        clear hcall q0 q1 hb7 hw9
        go_wp2
        go_ret
        exact ⟨rfl, hB3.trans (hW.mono hB3.size)⟩
end Go.Proofs.YticofgmmjecleaaGreatDoor

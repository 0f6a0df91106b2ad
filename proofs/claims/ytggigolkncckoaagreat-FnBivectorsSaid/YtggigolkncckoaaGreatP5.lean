/-
  LawFnBivectors: part 5 of the texts that the proof needs. No condition.
-/
import Derived.Test.YtggigolkncckoaaGreatP4
namespace Go.Proofs.YtggigolkncckoaaGreat
section
variable {p : Int} {sq : List Int}
theorem half_cl (x y : Cl p sq) : halfL p (brkL p sq sq.length x.l y.l) = (invF p 2 * Cl.brk x y : Cl p sq).l := by
  unfold halfL
  rw [← Cl.brk_l, ← Cl.sm_l]
/-- Turning by the bracket, divided by 2. -/
theorem turn_bracket (hp : 0 < p) (h6 : sq.length ≤ 6) {x y : Cl p sq} (hx : onlyL x.l 2 = true) (hy : onlyL y.l 2 = true) (h2 : 2 ≤ p) {v : List Int} (hv : NumsL p v) :
    turnL p sq sq.length (halfL p (brkL p sq sq.length x.l y.l)) v = plusL p (turnL p sq sq.length x.l (turnL p sq sq.length y.l v)) (turnL p sq sq.length y.l (turnL p sq sq.length x.l v)) (-1) := by
  rw [half_cl]
  refine vec_inj (sq := sq) hp (turnL_nums h2 _ _ _ _) (turnL_len _ _ _ _ _) (plusL_nums hp _ _ _) (by rw [plusL_len, turnL_len]) ?_
  rw [turn_cl hp h6 (Cl.brk_biv hp h6 hx hy _) hv, Cl.vec_plus hp (turnL_len _ _ _ _ _), turn_cl hp h6 hx (turnL_nums h2 _ _ _ _), turn_cl hp h6 hy hv, turn_cl hp h6 hy (turnL_nums h2 _ _ _ _), turn_cl hp h6 hx hv,
    Cl.brk_sm_l, Cl.brk_sm_r, Cl.brk_sm_r, Cl.brk_jac, Cl.sm_sm, Cl.sm_sm, Cl.sm_sm, Cl.sm_add, Cl.sm_sm, Cl.sm_sm]
  congr 2
  grind
theorem matL_row (hp : 2 ≤ p) (sq : List Int) {n : Nat} (xs : List Int) {i : Nat} (hi : i < n) : (matL p sq n xs).getD i [] = tab n fun k => (turnL p sq n xs (unitRow n k)).getD i 0 := by
  have hcl := colsL_len p sq n xs
  unfold matL transL
  have h1 : ((colsL p sq n xs).getD 0 []).length = n := ((colsL_tab hp sq n xs).row (by rw [hcl]; omega)).1
  rw [h1, tab_getD hi [], hcl]
  refine tab_congr fun k hk => ?_
  unfold ent colsL
  rw [tab_getD hk []]
theorem matL_ent (hp : 2 ≤ p) (sq : List Int) {n : Nat} (xs : List Int) {i k : Nat} (hi : i < n) (hk : k < n) : ent (matL p sq n xs) i k = (turnL p sq n xs (unitRow n k)).getD i 0 := by
  unfold ent
  rw [matL_row hp sq xs hi, tab_getD hk 0]
theorem prod_row (hp : 2 ≤ p) (sq : List Int) {n : Nat} {xs ys : List Int} (hx : xs.length = pw n) (hxs : NumsL p xs) {i : Nat} (hi : i < n) :
    (timesM p (matL p sq n xs) (matL p sq n ys)).getD i [] = tab n fun k => (turnL p sq n xs (turnL p sq n ys (unitRow n k))).getD i 0 := by
  have hml : ∀ zs, (matL p sq n zs).length = n := fun zs => matL_len hp sq (by omega) zs
  have htl : (transL (matL p sq n ys)).length = n := transL_len (matL_tab hp sq n ys) (by rw [hml]; omega)
  unfold timesM
  rw [tab_getD (by rw [hml]; exact hi) []]
  unfold applyL
  rw [htl]
  refine tab_congr fun k hk => ?_
  have hrow : (transL (matL p sq n ys)).getD k [] = tab n fun j => (turnL p sq n ys (unitRow n k)).getD j 0 := by
    unfold transL
    have h1 : ((matL p sq n ys).getD 0 []).length = n := ((matL_tab hp sq n ys).row (by rw [hml]; omega)).1
    rw [h1, tab_getD hk [], hml]
    exact tab_congr fun j hj => matL_ent hp sq ys hj hk
  rw [hrow, matL_row hp sq xs hi]
  unfold dotL
  rw [tab_len]
  have hl := turnL_lin (sq := sq) hx hxs hp hi (turnL p sq n ys (unitRow n k)) (turnL_len _ _ _ _ _) (turnL_nums hp _ _ _ _)
  have hs : (turnL p sq n xs (turnL p sq n ys (unitRow n k))).getD i 0 % p = (turnL p sq n xs (turnL p sq n ys (unitRow n k))).getD i 0 := by
    obtain ⟨a, b⟩ := (turnL_nums hp sq n xs (turnL p sq n ys (unitRow n k))).getD (show 0 < p by omega) i
    exact Int.emod_eq_of_lt a b
  rw [← hs, hl]
  refine sumTo_mod p fun j hj => ?_
  rw [tab_getD hj 0, tab_getD hj 0, Int.mul_comm]
/-- The matrix of the bracket, divided by 2: the product of the matrices less that in the other order. -/
theorem brk_rows (hP : isP p = true) (h6 : sq.length ≤ 6) {xs ys : List Int} (hx : xs.length = pw sq.length) (hxs : NumsL p xs) (hy : ys.length = pw sq.length) (hys : NumsL p ys) (hx2 : onlyL xs 2 = true) (hy2 : onlyL ys 2 = true) {i : Nat} (hi : i < sq.length) :
    plusL p ((timesM p (matL p sq sq.length xs) (matL p sq sq.length ys)).getD i []) ((timesM p (matL p sq sq.length ys) (matL p sq sq.length xs)).getD i []) (-1) = (matL p sq sq.length (halfL p (brkL p sq sq.length xs ys))).getD i [] := by
  have h3 := (isP_ge hP).1
  have hp : 0 < p := by omega
  obtain ⟨x, rfl⟩ : ∃ x : Cl p sq, x.l = xs := ⟨⟨xs, hx, hxs, hp⟩, rfl⟩
  obtain ⟨y, rfl⟩ : ∃ y : Cl p sq, y.l = ys := ⟨⟨ys, hy, hys, hp⟩, rfl⟩
  rw [prod_row (by omega) sq hx hxs hi, prod_row (by omega) sq hy hys hi, matL_row (by omega) sq _ hi]
  unfold plusL
  rw [tab_len]
  refine tab_congr fun k hk => ?_
  rw [tab_getD hk 0, tab_getD hk 0, turn_bracket hp h6 hx2 hy2 (by omega) (unitRow_nums (by omega) _ _), plusL_getD _ _ (by rw [turnL_len]; exact hi)]
def extZ (x : Nat → Int) (i k : Nat) : Int := if i < k then x (2 ^ i ^^^ 2 ^ k) else if k < i then -(x (2 ^ k ^^^ 2 ^ i)) else 0
theorem extZ_anti (x : Nat → Int) (i k : Nat) : extZ x k i = -(extZ x i k) := by
  unfold extZ
  rcases Nat.lt_trichotomy i k with h | h | h
  · rw [if_neg (by omega), if_pos h, if_pos h]
  · subst h; simp
  · rw [if_pos h, if_neg (by omega), if_pos h]; omega
theorem extZ_cg {x y : Nat → Int} {i k : Nat} (h : i < k → x (2 ^ i ^^^ 2 ^ k) % p = y (2 ^ i ^^^ 2 ^ k) % p) (h' : k < i → x (2 ^ k ^^^ 2 ^ i) % p = y (2 ^ k ^^^ 2 ^ i) % p) : extZ x i k % p = extZ y i k % p := by
  unfold extZ
  split
  · exact h (by assumption)
  · split
    · obtain ⟨c, hc⟩ := cg_wit.1 (h' (by assumption))
      exact cg_wit.2 ⟨-c, by rw [hc, Int.mul_neg]; omega⟩
    · rfl
theorem vec_pow (hp : 0 < p) (v : List Int) {i : Nat} (hi : i < sq.length) : (Cl.vec hp v : Cl p sq).co (2 ^ i) % p = v.getD i 0 % p := by
  rw [Cl.vec_co hp v (two_lt hi), sumTo_one i hi fun j _ hne => if_neg fun e => hne (pow_inj e).symm, if_pos rfl]
theorem bil_unit {a b : Nat} (_ha : a < sq.length) (hb : b < sq.length) : bil sq (unitRow sq.length a) (unitRow sq.length b) = if a = b then sq.getD b 0 else 0 := by
  unfold bil
  rw [sumTo_one b hb fun j hj hne => by rw [unitRow_getD (k := b) hj, if_neg fun e => hne e.symm, Int.mul_zero, Int.zero_mul], unitRow_getD hb, unitRow_getD hb, if_pos rfl]
  split <;> simp
theorem brk_ent (hp : 0 < p) (h6 : sq.length ≤ 6) {x : Cl p sq} (hx : onlyL x.l 2 = true) {i k : Nat} (hi : i < sq.length) (hk : k < sq.length) :
    (Cl.brk x (Cl.vec hp (unitRow sq.length k))).co (2 ^ i) % p = (2 * extZ x.co i k * sq.getD k 0) % p := by
  have hm := two_lt hi
  refine Cl.biv_ind hp h6 hx (fun x => (Cl.brk x (Cl.vec hp (unitRow sq.length k))).co (2 ^ i) % p = (2 * extZ x.co i k * sq.getD k 0) % p) ?_ ?_ ?_ ?_
  · rw [Cl.brk_zero, Cl.zero_co hp hm]
    have : extZ (Cl.zero hp : Cl p sq).co i k % p = extZ (fun _ => 0) i k % p := extZ_cg (fun h => by rw [Cl.zero_co hp (pc2_lt hi hk), Int.zero_emod]) (fun h => by rw [Cl.zero_co hp (pc2_lt hk hi), Int.zero_emod])
    obtain ⟨c, hc⟩ := cg_wit.1 this
    have h0 : extZ (fun _ => 0) i k = 0 := by unfold extZ; simp
    rw [h0] at hc
    rw [hc]
    exact (Int.zero_emod p).symm.trans (cg_wit.2 ⟨-(2 * c * sq.getD k 0), by grind⟩)
  · intro a b h1 h2
    rw [Cl.brk_add_l, Cl.add_co _ _ hm]
    have : extZ (a + b : Cl p sq).co i k % p = extZ (fun m => a.co m + b.co m) i k % p := extZ_cg (fun h => Cl.add_co _ _ (pc2_lt hi hk)) (fun h => Cl.add_co _ _ (pc2_lt hk hi))
    have h0 : extZ (fun m => a.co m + b.co m) i k = extZ a.co i k + extZ b.co i k := by
      unfold extZ
      split
      · rfl
      · split
        · show -(_ + _) = _; omega
        · rfl
    rw [h0] at this
    obtain ⟨c, hc⟩ := cg_wit.1 this
    obtain ⟨d, hd⟩ := cg_wit.1 h1
    obtain ⟨e, he⟩ := cg_wit.1 h2
    rw [hc, hd, he]
    exact cg_wit.2 ⟨d + e - 2 * c * sq.getD k 0, by grind⟩
  · intro l a h1
    rw [Cl.brk_sm_l, Cl.sm_co _ _ hm]
    have : extZ (l * a : Cl p sq).co i k % p = extZ (fun m => l * a.co m) i k % p := extZ_cg (fun h => Cl.sm_co _ _ (pc2_lt hi hk)) (fun h => Cl.sm_co _ _ (pc2_lt hk hi))
    have h0 : extZ (fun m => l * a.co m) i k = l * extZ a.co i k := by unfold extZ; split; rfl; split; rw [Int.mul_neg]; rw [Int.mul_zero]
    rw [h0] at this
    obtain ⟨c, hc⟩ := cg_wit.1 this
    obtain ⟨d, hd⟩ := cg_wit.1 h1
    rw [hc, hd]
    exact cg_wit.2 ⟨l * d - 2 * c * sq.getD k 0, by grind⟩
  · intro a b hab hb
    have ha : a < sq.length := by omega
    have e1 : ∀ m, m < pw sq.length → (Cl.uu hp a b : Cl p sq).co m % p = (fun m => if m = 2 ^ a ^^^ 2 ^ b then (1 : Int) else 0) m % p := fun m hm => Cl.uu_co hp hab hb hm
    have : extZ (Cl.uu hp a b : Cl p sq).co i k % p = extZ (fun m => if m = 2 ^ a ^^^ 2 ^ b then 1 else 0) i k % p := extZ_cg (fun h => e1 _ (pc2_lt hi hk)) (fun h => e1 _ (pc2_lt hk hi))
    have h0 : extZ (fun m => if m = 2 ^ a ^^^ 2 ^ b then 1 else 0) i k = (if i = a ∧ k = b then 1 else 0) - (if k = a ∧ i = b then 1 else 0) := by
      unfold extZ
      have e2 : ∀ i k : Nat, i < k → k < sq.length → ((2 ^ i ^^^ 2 ^ k = 2 ^ a ^^^ 2 ^ b) ↔ (i = a ∧ k = b)) := fun i k h hk => ⟨pc2_same i (by omega) k (by omega) a (by omega) b (by omega) h hab, by rintro ⟨rfl, rfl⟩; rfl⟩
      rcases Nat.lt_trichotomy i k with h | h | h
      · rw [if_pos h]
        simp only [e2 i k h hk]
        rw [if_neg (show ¬ (k = a ∧ i = b) by omega)]; omega
      · subst h
        rw [if_neg (Nat.lt_irrefl i), if_neg (Nat.lt_irrefl i), if_neg (show ¬ (i = a ∧ i = b) by omega)]; rfl
      · rw [if_neg (by omega), if_pos h]
        simp only [e2 k i h hi]
        rw [if_neg (show ¬ (i = a ∧ k = b) by omega)]; omega
    rw [h0] at this
    obtain ⟨c, hc⟩ := cg_wit.1 this
    rw [hc]
    unfold Cl.uu
    rw [Cl.brk_two, Cl.add_co _ _ hm, Int.add_emod, Cl.sm_co _ _ hm, Cl.sm_co _ _ hm, Int.mul_emod, vec_pow hp _ hi, ← Int.mul_emod, Int.mul_emod (-_), vec_pow hp _ hi, ← Int.mul_emod, ← Int.add_emod, unitRow_getD hi, unitRow_getD hi, bil_unit hb hk, bil_unit ha hk]
    refine cg_wit.2 ⟨-(2 * c * sq.getD k 0), ?_⟩
    by_cases h1 : a = i <;> by_cases h2 : b = k <;> by_cases h4 : a = k <;> by_cases h5 : b = i <;> simp [h1, h2, h4, h5, eq_comm] <;> grind
/-- The numbers of a bivector's matrix. -/
theorem turn_ent (hP : isP p = true) (h6 : sq.length ≤ 6) {x : Cl p sq} (hx : onlyL x.l 2 = true) {i k : Nat} (hi : i < sq.length) (hk : k < sq.length) :
    ent (matL p sq sq.length x.l) i k % p = (extZ x.co i k * sq.getD k 0) % p := by
  have h3 := (isP_ge hP).1
  have hp : 0 < p := by omega
  rw [matL_ent (by omega) sq _ hi hk, ← vec_pow (sq := sq) hp _ hi, turn_cl hp h6 hx (unitRow_nums (by omega) _ _), Cl.sm_co _ _ (two_lt hi), Int.mul_emod, brk_ent hp h6 hx hi hk, ← Int.mul_emod]
  obtain ⟨c, hc⟩ := cg_wit.1 (half_two hP)
  exact cg_wit.2 ⟨c * extZ x.co i k * sq.getD k 0, by grind⟩
/-- It is skew. -/
theorem biv_skew (hP : isP p = true) (h6 : sq.length ≤ 6) {xs : List Int} (hl : xs.length = pw sq.length) (hxs : NumsL p xs) (hx : onlyL xs 2 = true) {i k : Nat} (hi : i < sq.length) (hk : k < sq.length) :
    (sq.getD k 0 * ent (matL p sq sq.length xs) k i + sq.getD i 0 * ent (matL p sq sq.length xs) i k) % p = 0 := by
  have h3 := (isP_ge hP).1
  obtain ⟨x, rfl⟩ : ∃ x : Cl p sq, x.l = xs := ⟨⟨xs, hl, hxs, by omega⟩, rfl⟩
  obtain ⟨c, hc⟩ := cg_wit.1 (turn_ent hP h6 hx hi hk)
  obtain ⟨d, hd⟩ := cg_wit.1 (turn_ent hP h6 hx hk hi)
  rw [extZ_anti] at hd
  rw [hc, hd]
  exact (cg_wit (b := 0)).2 ⟨sq.getD k 0 * d + sq.getD i 0 * c, by grind⟩ |>.trans (Int.zero_emod p)
/-- It leads back. -/
theorem biv_back (hP : isP p = true) (h6 : sq.length ≤ 6) {xs : List Int} (hl : xs.length = pw sq.length) (hxs : NumsL p xs) (hx : onlyL xs 2 = true) {i k : Nat} (hik : i < k) (hk : k < sq.length) (hs : 0 ≤ sq.getD k 0 ∧ sq.getD k 0 < p) (h0 : sq.getD k 0 ≠ 0) :
    (ent (matL p sq sq.length xs) i k * invF p (sq.getD k 0)) % p = xs.getD (2 ^ i ^^^ 2 ^ k) 0 := by
  have h3 := (isP_ge hP).1
  obtain ⟨x, rfl⟩ : ∃ x : Cl p sq, x.l = xs := ⟨⟨xs, hl, hxs, by omega⟩, rfl⟩
  obtain ⟨c, hc⟩ := cg_wit.1 (turn_ent hP h6 hx (show i < sq.length by omega) hk)
  obtain ⟨d, hd⟩ := cg_wit.1 (inv_one hP hs h0)
  have he : extZ x.co i k = x.co (2 ^ i ^^^ 2 ^ k) := by unfold extZ; rw [if_pos hik]
  rw [he] at hc
  show _ = x.co (2 ^ i ^^^ 2 ^ k)
  rw [← Cl.co_mod, hc]
  exact cg_wit.2 ⟨c * invF p (sq.getD k 0) + x.co (2 ^ i ^^^ 2 ^ k) * d, by grind⟩
theorem vecTo_nz {n : Nat} {v : List Int} {a : Nat} (ha : a < pw n) (h : (vecTo n v n).getD a 0 ≠ 0) : ∃ i, i < n ∧ a = 2 ^ i := by
  rcases Classical.em (∃ i, i < n ∧ a = 2 ^ i) with h1 | h1
  · exact h1
  · exact absurd (by rw [vecTo_getD v ha n (Nat.le_refl _)]; exact sumTo_zero fun i hi => if_neg fun e => h1 ⟨i, hi, e⟩) h
theorem pow_apart : ∀ i : Nat, i < 6 → ∀ j : Nat, j < 6 → i ≠ j → 2 ^ i &&& 2 ^ j = 0 := by decide +kernel
theorem wedge_cl (hp : 0 < p) (h6 : sq.length ≤ 6) {v w : List Int} (hv : NumsL p v) (hw : NumsL p w) : wedgeL p sq (vecTo sq.length v sq.length) (vecTo sq.length w sq.length) = (Cl.vec hp v * Cl.vec hp w + (-(bil sq v w)) * Cl.one hp : Cl p sq).l := by
  obtain ⟨z, hz⟩ : ∃ z : Cl p sq, z = Cl.vec hp v * Cl.vec hp w + (-(bil sq v w)) * Cl.one hp := ⟨_, rfl⟩
  rw [← hz]
  refine list_ext_getD 0 (by unfold wedgeL; rw [prodL_len, vecTo_len, z.len]) fun m hm => ?_
  have hm' : m < pw sq.length := by unfold wedgeL at hm; rw [prodL_len, vecTo_len] at hm; exact hm
  show _ = z.co m
  unfold wedgeL
  rw [← z.co_mod, prodL_getD p sq _ _ _ sq.length m (vecTo_len _ _ _) (vecTo_len _ _ _) hm', hz, Cl.add_co _ _ hm', Int.add_emod, Cl.sm_co _ _ hm', Int.mul_emod (-_), Cl.one_co hp hm', ← Int.mul_emod, ← Int.add_emod]
  by_cases h0 : m = 0
  · subst h0
    rw [sumTo_zero fun a ha => ?_, if_pos rfl]
    · rw [Int.add_emod, Cl.vv_co hp _ _ hm', ← Int.add_emod, sumTo_congr (g := fun i => v.getD i 0 * w.getD i 0 * sq.getD i 0) fun i hi => ?_]
      · show 0 % p = (bil sq v w + -(bil sq v w) * 1) % p
        congr 1; omega
      · rw [sumTo_one i hi fun j _ hne => if_neg fun e => hne (pow_xor_zero.1 e).symm, if_pos (Nat.xor_self _), facZ_same sq hi]
    · unfold term
      split
      · rename_i h
        simp only [Nat.xor_zero, Nat.and_self, beq_iff_eq] at h
        subst h
        have : (vecTo sq.length v sq.length).getD 0 0 = 0 := by
          rcases Classical.em ((vecTo sq.length v sq.length).getD 0 0 = 0) with h1 | h1
          · exact h1
          · obtain ⟨i, _, e⟩ := vecTo_nz hm' h1
            have := Nat.two_pow_pos i
            omega
        rw [this, Int.zero_mul, Int.zero_mul]
      · rfl
  · rw [if_neg h0, Int.mul_zero, Int.add_zero, Cl.mul_co _ _ hm']
    unfold mulZ
    refine sumTo_mod p fun a ha => ?_
    have e1 : (Cl.vec hp v : Cl p sq).co a = (vecTo sq.length v sq.length).getD a 0 := by unfold Cl.co; rw [Cl.vec_l hp hv]
    have e2 : (Cl.vec hp w : Cl p sq).co (a ^^^ m) = (vecTo sq.length w sq.length).getD (a ^^^ m) 0 := by unfold Cl.co; rw [Cl.vec_l hp hw]
    rw [e1, e2]
    unfold term
    by_cases h1 : (vecTo sq.length v sq.length).getD a 0 = 0
    · rw [h1]; simp
    · by_cases h2 : (vecTo sq.length w sq.length).getD (a ^^^ m) 0 = 0
      · rw [h2]; simp
      · obtain ⟨i, hi, ea⟩ := vecTo_nz ha h1
        obtain ⟨j, hj, eb⟩ := vecTo_nz (xor_lt ha hm') h2
        have hij : i ≠ j := fun e => h0 (by
          have h5 : a ^^^ m = a := by rw [eb, ea, e]
          have := xor_self_left a m
          rw [h5, Nat.xor_self] at this
          exact this.symm)
        have h6' : (a &&& (a ^^^ m) == 0) = true := by rw [eb, ea, pow_apart i (by omega) j (by omega) hij]; rfl
        rw [if_pos h6', Int.mul_emod, fac_facZ, ← Int.mul_emod]
theorem wedge_only (hp : 0 < p) (h6 : sq.length ≤ 6) {v w : List Int} (hv : NumsL p v) (hw : NumsL p w) : onlyL (wedgeL p sq (vecTo sq.length v sq.length) (vecTo sq.length w sq.length)) 2 = true := by
  rw [wedge_cl hp h6 hv hw]
  refine (Cl.only_co h6 _ 2).2 fun m hm hne => ?_
  by_cases h0 : m = 0
  · subst h0
    rw [← Cl.co_mod, Cl.add_co _ _ hm, Int.add_emod, Cl.sm_co _ _ hm, Int.mul_emod (-_), Cl.one_co hp hm, ← Int.mul_emod, Cl.vv_co hp _ _ hm, ← Int.add_emod, if_pos rfl, sumTo_congr (g := fun i => v.getD i 0 * w.getD i 0 * sq.getD i 0) fun i hi => ?_]
    · show (bil sq v w + -(bil sq v w) * 1) % p = 0
      rw [show bil sq v w + -(bil sq v w) * 1 = 0 by omega, Int.zero_emod]
    · rw [sumTo_one i hi fun j _ hne => if_neg fun e => hne (pow_xor_zero.1 e).symm, if_pos (Nat.xor_self _), facZ_same sq hi]
  · rw [← Cl.co_mod, Cl.add_co _ _ hm, Cl.vv_grade hp h6 _ _ hm h0 hne, Int.add_emod, Cl.sm_co _ _ hm, Int.mul_emod (-_), Cl.one_co hp hm, ← Int.mul_emod, if_neg h0, Int.mul_zero]; rfl
/-- Turning by the wedge product of two vectors. -/
theorem turn_wedge (hP : isP p = true) (h6 : sq.length ≤ 6) {u v w : List Int} (hu : NumsL p u) (hv : NumsL p v) (hlv : v.length = sq.length) (hw : NumsL p w) (hlw : w.length = sq.length) :
    turnL p sq sq.length (wedgeL p sq (vecTo sq.length v sq.length) (vecTo sq.length w sq.length)) u = plusL p (plusL p (List.replicate sq.length 0) v (pairL p sq w u)) w (-(pairL p sq v u)) := by
  have h3 := (isP_ge hP).1
  have hp : 0 < p := by omega
  have ho := wedge_only hp h6 hv hw
  rw [wedge_cl hp h6 hv hw] at ho ⊢
  refine vec_inj (sq := sq) hp (turnL_nums (by omega) _ _ _ _) (turnL_len _ _ _ _ _) (plusL_nums hp _ _ _) (by rw [plusL_len, plusL_len, List.length_replicate]) ?_
  have hz : (Cl.vec hp (List.replicate sq.length 0) : Cl p sq) = Cl.zero hp := Cl.same fun m hm => by
    rw [Cl.vec_co hp _ hm, Cl.zero_co hp hm, sumTo_zero fun i hi => by
      split
      · simp [List.getD_eq_getElem?_getD, List.getElem?_replicate, hi]
      · rfl, Int.zero_emod]
  obtain ⟨c, hc⟩ := cg_wit.1 (half_two hP)
  obtain ⟨d, hd⟩ := cg_wit.1 (pairL_bil (p := p) (u := u) hlw)
  obtain ⟨e, he⟩ := cg_wit.1 (pairL_bil (p := p) (u := u) hlv)
  rw [turn_cl hp h6 ho hu, Cl.brk_add_l, Cl.brk_one, Cl.add_zero, Cl.brk_two, Cl.vec_plus hp (by rw [plusL_len, List.length_replicate]), Cl.vec_plus hp (by rw [List.length_replicate]), hz, Cl.add_comm (Cl.zero hp), Cl.add_zero, Cl.sm_add, Cl.sm_sm, Cl.sm_sm]
  rw [Cl.sm_cg (k := invF p 2 * (2 * bil sq w u)) (j := pairL p sq w u) (cg_wit.2 ⟨c * bil sq w u - d, by grind⟩), Cl.sm_cg (k := invF p 2 * -(2 * bil sq v u)) (j := -(pairL p sq v u)) (cg_wit.2 ⟨e - c * bil sq v u, by grind⟩)]
end
end Go.Proofs.YtggigolkncckoaaGreat
namespace Go.Proofs.YtggigolkncckoaaGreat
open Go.RowKit
set_option maxHeartbeats 1600000 in
theorem isTable_ok (p : Int) (A : Option Addr) (n c : Nat) (M : List (List Int)) (m : Nat) (w : World) (hp0 : 0 < p) (hp1 : p ≤ 13) (hn : n ≤ 16) (hm1 : 1 ≤ m) (hm : m ≤ 16) (ha : RdII w A n M) (hT : Tab p m M) :
    Calls Tryz.prog 222 #[.int .i64 p, .slice A n c] w fun e w' => e = .returned (.bool true) ∧ w = w' := by
  have HT := Lib.hid hT
  have t1 : decide ((16 : Int) < (n : Int)) = false := by simp; omega
  have t2 : decide ((m : Int) < 1) = false := by simp; omega
  have t3 : decide ((16 : Int) < (m : Int)) = false := by simp; omega
  have t4 : ((m : Int) != (m : Int)) = false := by simp
  clear hT
  go_enter Tryz.func222, Tryz.ntmps222
  go_wp2
  go_loopw [12] (fun i wr => ∃ k : Nat, k ≤ n ∧ i = .int .i64 k ∧ wr = w) (fun i _ => n - (intOf i).toNat)
  case atStart => exact ⟨0, by omega, rfl, rfl⟩
  case round =>
    obtain ⟨k, hk, rfl, rfl⟩ := hrel
    by_cases hlt : k < n
    · obtain ⟨g, o, rfl, hxk, A1, c1, hc1, hr1, -⟩ := ha.at_ hlt
      obtain ⟨g0, o0, e0, hx0, A0, c0, hc0, hr0, -⟩ := ha.at_ (show 0 < n by omega)
      cases e0
      obtain ⟨l1, n1⟩ := HT.out M[k] (List.getElem_mem hxk)
      obtain ⟨l0, -⟩ := HT.out M[0] (List.getElem_mem hx0)
      rw [l1] at hc1 hr1
      rw [l0] at hc0
      rw [Nat.add_zero] at hc0
      have his := is_b p A1 m c1 M[k] wr (by omega) (by omega) (by omega) hr1 (List.all_eq_true.2 fun x hx => by have := n1 x hx; simp [inR]; omega)
      clear hr1 hr0 l1 n1 l0 ha
      go_wp2_with fail
      refine his.mono ?_
      rintro e w1 ⟨rfl, rfl⟩
      go_wp2
      go_roundw
      case rel => exact ⟨k + 1, by omega, by go_num, by first | rfl | trivial⟩
      case measure => simp [intOf]; omega
    · go_wp2
      go_ret
      exact ⟨rfl, rfl⟩
set_option maxHeartbeats 800000 in
theorem isMatrix_ok (p : Int) (A : Option Addr) (n c : Nat) (M : List (List Int)) (m : Nat) (w : World) (hp0 : 0 < p) (hp1 : p ≤ 13) (hn0 : 0 < n) (hn : n ≤ 16) (hm1 : 1 ≤ m) (hm : m ≤ 16) (ha : RdII w A n M) (hT : Tab p m M) :
    Calls Tryz.prog 319 #[.int .i64 p, .slice A n c] w fun e w' => e = .returned (.bool true) ∧ w = w' := by
  have h := isTable_ok p A n c M m w hp0 hp1 hn hm1 hm ha hT
  have t1 : decide ((0 : Int) < (n : Int)) = true := by simp; omega
  clear hT
  go_enter Tryz.func319, Tryz.ntmps319
  go_wp2_with fail
  refine h.mono ?_
  rintro e w1 ⟨rfl, rfl⟩
  go_wp2
  go_ret
  exact ⟨rfl, rfl⟩
/-- A block of matrices. -/
def RdM (w : World) (g n : Nat) (p : Int) : Prop := ∀ k, k < n → ∃ (A : Option Addr) (r c m : Nat) (M : List (List Int)), w.cell? ⟨g, k, none⟩ = some (.slice A r c) ∧ RdII w A r M ∧ Tab p m M ∧ 0 < r ∧ r ≤ 16 ∧ 1 ≤ m ∧ m ≤ 16
theorem RdM.below {w w' : World} {g n : Nat} {p : Int} (h : RdM w g n p) (hb : Below w.heap.size w w') : RdM w' g n p := fun k hk => by
  obtain ⟨A, r, c, m, M, h1, h2, h3⟩ := h k hk
  exact ⟨A, r, c, m, M, (hb.cell (World.block_lt_of_cell? _ _ h1)).trans h1, h2.below hb, h3⟩
set_option maxHeartbeats 800000 in
theorem IndexFuncM_no (f : FuncId) (q : Addr) (p : Int) (g n c : Nat) (w : World) (hn : n ≤ 1000) (ha : RdM w g n p) (hf : ∀ (w' : World) (A : Option Addr) (r c m : Nat) (M : List (List Int)), Below w.heap.size w w' → RdII w' A r M → Tab p m M → 0 < r → r ≤ 16 → 1 ≤ m → m ≤ 16 → Calls Tryz.prog f #[.slice A r c, .pointer (some q)] w' fun e w'' => e = .returned (.bool false) ∧ Below w'.heap.size w' w'') (hcf : ∀ (args : Array Value) (w : World), (callFunc f args).run Tryz.prog w = .ok (.enter f args) w) :
    Calls Tryz.prog 356 #[.slice (some ⟨g, 0, none⟩) n c, .func (.func f) #[] #[.pointer (some q)]] w fun e w' => e = .returned (.int .i64 (-1)) ∧ Below w.heap.size w w' := by
  go_enter Tryz.func356, Tryz.ntmps356
  go_wp2
  go_loopw [8] (fun i wr => ∃ k : Nat, k ≤ n ∧ i = .int .i64 k ∧ Below w.heap.size w wr) (fun i _ => n - (intOf i).toNat)
  case atStart => exact ⟨0, by omega, rfl, Below.refl _ _⟩
  case round =>
    obtain ⟨k, hk, rfl, hB⟩ := hrel
    by_cases hlt : k < n
    · obtain ⟨A, r, c', m, M, hcx, h1, h2, h3, h4, h5, h6⟩ := (ha.below hB) k hlt
      have hcall := hf _ A r c' m M hB h1 h2 h3 h4 h5 h6
      clear ha hf h1 h2
      go_wp2_with fail
      refine hcall.mono ?_
      rintro e w1 ⟨rfl, hb1⟩
      go_wp2
      go_roundw
      case rel => exact ⟨k + 1, by omega, by go_num, hB.trans (hb1.mono hB.size)⟩
      case measure => simp [intOf]; omega
    · go_wp2
      go_ret
      exact ⟨rfl, hB⟩
set_option maxHeartbeats 400000 in
theorem ContainsFuncM_no (f : FuncId) (q : Addr) (p : Int) (g n c : Nat) (w : World) (hn : n ≤ 1000) (ha : RdM w g n p) (hf : ∀ (w' : World) (A : Option Addr) (r c m : Nat) (M : List (List Int)), Below w.heap.size w w' → RdII w' A r M → Tab p m M → 0 < r → r ≤ 16 → 1 ≤ m → m ≤ 16 → Calls Tryz.prog f #[.slice A r c, .pointer (some q)] w' fun e w'' => e = .returned (.bool false) ∧ Below w'.heap.size w' w'') (hcf : ∀ (args : Array Value) (w : World), (callFunc f args).run Tryz.prog w = .ok (.enter f args) w) :
    Calls Tryz.prog 317 #[.slice (some ⟨g, 0, none⟩) n c, .func (.func f) #[] #[.pointer (some q)]] w fun e w' => e = .returned (.bool false) ∧ Below w.heap.size w w' := by
  have h := IndexFuncM_no f q p g n c w hn ha hf hcf
  clear hf
  go_enter Tryz.func317, Tryz.ntmps317
  go_wp2_with fail
  refine h.mono ?_
  rintro e w1 ⟨rfl, hb⟩
  go_wp2
  go_ret
  exact ⟨rfl, hb⟩
set_option maxHeartbeats 800000 in
theorem notMatrix_no (p : Int) (b : Nat) (A : Option Addr) (r c m : Nat) (M : List (List Int)) (w : World) (hp0 : 0 < p) (hp1 : p ≤ 13) (hk : Blk w b 2 #[.int .i64 p]) (ha : RdII w A r M) (hT : Tab p m M) (h3 : 0 < r) (h4 : r ≤ 16) (h5 : 1 ≤ m) (h6 : m ≤ 16) :
    Calls Tryz.prog 318 #[.slice A r c, .pointer (some ⟨b, 0, none⟩)] w fun e w' => e = .returned (.bool false) ∧ Below w.heap.size w w' := by
  have h := isMatrix_ok p A r c M m w hp0 hp1 h3 h4 h5 h6 ha hT
  have q0 : w.cell? ⟨b, 0, none⟩ = some (.int .i64 p) := by rw [hk.cell]; rfl
  clear hT ha
  go_enter Tryz.func318, Tryz.ntmps318
  go_wp2_with fail
  refine h.mono ?_
  rintro e w1 ⟨rfl, rfl⟩
  go_wp2
  go_ret
  exact ⟨rfl, Below.refl _ _⟩
set_option maxHeartbeats 800000 in
set_option maxRecDepth 8000 in
theorem checkMatrices_ok (p : Int) (g n c : Nat) (w : World) (HP : isP p = true) (hn : n ≤ 1000) (ha : RdM w g n p) :
    Calls Tryz.prog 201 #[.int .i64 p, .slice (some ⟨g, 0, none⟩) n c] w fun e w' => e = .returned (.int .i64 0) ∧ Below w.heap.size w w' := by
  obtain ⟨hp3, hp2⟩ := isP_ge HP
  have hB : Below w.heap.size w (w.alloc (.cells #[.int .i64 p] 2)) := (Below.refl _ _).alloc (Nat.le_refl _) _
  have k0 : Blk (w.alloc (.cells #[.int .i64 p] 2)) w.heap.size 2 #[.int .i64 p] := Blk.new _ _ _
  have hmf : ∀ (fn : Fn) (first cap : Array Value) (w : World), (Instr.makeFunc fn first cap).run Tryz.prog w = .ok (.func fn first cap) w := fun _ _ _ _ => rfl
  have hip := IsPrime_b p (w.alloc (.cells #[.int .i64 p] 2)) HP
  have hcf := ContainsFuncM_no 318 ⟨w.heap.size, 0, none⟩ p g n c (w.alloc (.cells #[.int .i64 p] 2)) hn (ha.below hB) (fun w' A r c' m M hb h1 h2 h3 h4 h5 h6 => notMatrix_no p w.heap.size A r c' m M w' (by omega) hp2 (k0.below hb k0.lt) h1 h2 h3 h4 h5 h6) (fun _ _ => rfl)
  clear HP ha
  go_enter Tryz.func201, Tryz.ntmps201
  go_wp2_with fail
  refine hip.mono ?_
  rintro e w1 ⟨rfl, rfl⟩
  go_wp2_with fail
  refine hcf.mono ?_
  rintro e w2 ⟨rfl, hb2⟩
  go_wp2
  go_ret
  exact ⟨rfl, hB.trans (hb2.mono hB.size)⟩
set_option maxHeartbeats 800000 in
theorem checkSquare_ok (p : Int) (A : Option Addr) (n c : Nat) (M : List (List Int)) (w : World) (HP : isP p = true) (hn0 : 0 < n) (hn : n ≤ 16) (ha : RdII w A n M) (hM : Tab p n M) :
    Calls Tryz.prog 206 #[.int .i64 p, .slice A n c] w fun e w' => e = .returned (.int .i64 0) ∧ Below w.heap.size w w' := by
  have hB : Below w.heap.size w (w.alloc (.cells #[.slice A n c] 44)) := (Below.refl _ _).alloc (Nat.le_refl _) _
  have hkn : Blk (w.alloc (.cells #[.slice A n c] 44)) w.heap.size 44 #[.slice A n c] := Blk.new _ _ _
  have hrm : RdM (w.alloc (.cells #[.slice A n c] 44)) w.heap.size 1 p := fun k hk => ⟨A, n, c, n, M, by (obtain rfl : k = 0 := by omega); rw [hkn.cell]; rfl, ha.below hB, hM, by omega, hn, by omega, hn⟩
  have hck := checkMatrices_ok p w.heap.size 1 1 (w.alloc (.cells #[.slice A n c] 44)) HP (by omega) hrm
  clear hrm hkn
  have HM := Lib.hid hM
  clear hM
  go_enter Tryz.func206, Tryz.ntmps206
  go_wp2_with fail
  refine hck.mono ?_
  rintro e w1 ⟨rfl, hb1⟩
  have hB1 := hB.trans (hb1.mono hB.size)
  obtain ⟨g, o, rfl, hx0, A0, c0, hc0, -, -⟩ := (ha.below hB1).at_ hn0
  rw [(HM.out M[0] (List.getElem_mem hx0)).1, Nat.add_zero] at hc0
  have t4 : ((n : Int) != (n : Int)) = false := by simp
  clear hck ha
  go_wp2
  go_ret
  exact ⟨rfl, hB1⟩
set_option maxHeartbeats 800000 in
theorem TraceOf_ok (p : Int) (A : Option Addr) (n c : Nat) (M : List (List Int)) (w : World) (HP : isP p = true) (hn0 : 0 < n) (hn : n ≤ 16) (ha : RdII w A n M) (hM : Tab p n M) :
    Calls Tryz.prog 65 #[.int .i64 p, .slice A n c] w fun e w' => e = .returned (.tuple #[.int .i64 (traceL p M), .int .i64 0]) ∧ Below w.heap.size w w' := by
  obtain ⟨hp3, hp2⟩ := isP_ge HP
  have hck := checkSquare_ok p A n c M w HP hn0 hn ha hM
  have htr := fun w' (h : Below w.heap.size w w') => trace_any p A n c M w' (by omega) hp2 (by omega) (ha.below h) hM
  obtain ⟨t, ht⟩ : ∃ t, t = traceL p M := ⟨_, rfl⟩
  rw [← ht] at htr ⊢
  clear hM ha HP ht
  go_enter Tryz.func65, Tryz.ntmps65
  go_wp2_with fail
  refine hck.mono ?_
  rintro e w1 ⟨rfl, hb1⟩
  go_wp2_with fail
  refine (htr _ hb1).mono ?_
  rintro e w2 ⟨rfl, rfl⟩
  go_wp2
  go_ret2
  exact ⟨rfl, hb1⟩
set_option maxHeartbeats 800000 in
theorem MultiplyMatrices_ok (p : Int) (A : Option Addr) (n c : Nat) (M : List (List Int)) (B : Option Addr) (d : Nat) (N : List (List Int)) (w : World) (HP : isP p = true) (hn0 : 0 < n) (hn : n ≤ 16) (ha : RdII w A n M) (hM : Tab p n M) (hb : RdII w B n N) (hN : Tab p n N) :
    Calls Tryz.prog 62 #[.int .i64 p, .slice A n c, .slice B n d] w fun e w' => ∃ (A' : Option Addr) (c' : Nat), e = .returned (.tuple #[.slice A' n c', .int .i64 0]) ∧ MkII w w' A' n c' (timesM p M N) := by
  obtain ⟨hp3, hp2⟩ := isP_ge HP
  have hB : Below w.heap.size w (w.alloc (.cells #[.slice A n c, .slice B n d] 44)) := (Below.refl _ _).alloc (Nat.le_refl _) _
  have hkn : Blk (w.alloc (.cells #[.slice A n c, .slice B n d] 44)) w.heap.size 44 #[.slice A n c, .slice B n d] := Blk.new _ _ _
  have hrm : RdM (w.alloc (.cells #[.slice A n c, .slice B n d] 44)) w.heap.size 2 p := fun k hk => by
    rcases Nat.lt_or_ge k 1 with h | h
    · obtain rfl : k = 0 := by omega
      exact ⟨A, n, c, n, M, by rw [hkn.cell]; rfl, ha.below hB, hM, by omega, hn, by omega, hn⟩
    · obtain rfl : k = 1 := by omega
      exact ⟨B, n, d, n, N, by rw [hkn.cell]; rfl, hb.below hB, hN, by omega, hn, by omega, hn⟩
  have hck := checkMatrices_ok p w.heap.size 2 2 (w.alloc (.cells #[.slice A n c, .slice B n d] 44)) HP (by omega) hrm
  have hti := Lib.hid fun w' (h : Below w.heap.size w w') => timesM_any p A n c M B d N w' (by omega) hp2 hn0 (by omega) (ha.below h) hM (hb.below h) hN
  clear hrm hkn hN hb HP
  have HM := Lib.hid hM
  clear hM
  go_enter Tryz.func62, Tryz.ntmps62
  go_wp2_with fail
  refine hck.mono ?_
  rintro e w1 ⟨rfl, hb1⟩
  have hB1 := hB.trans (hb1.mono hB.size)
  have hcall := hti.out w1 hB1
  obtain ⟨g, o, rfl, hx0, A0, c0, hc0, -, -⟩ := (ha.below hB1).at_ hn0
  rw [(HM.out M[0] (List.getElem_mem hx0)).1, Nat.add_zero] at hc0
  have t4 : ((n : Int) != (n : Int)) = false := by simp
  clear hck ha hti
  go_wp2_with fail
  refine hcall.mono ?_
  rintro e w2 ⟨A', c', rfl, hMM⟩
  go_wp2
  go_ret2
  exact ⟨A', c', rfl, hMM.after hB1⟩
set_option maxHeartbeats 1600000 in
set_option maxRecDepth 8000 in
theorem isFrame_ok (P : Int) (A : Option Addr) (n c : Nat) (sq : List Int) (D : Option Addr) (d : Nat) (M : List (List Int)) (w : World) (hp0 : 0 < P) (hp1 : P ≤ 13) (hn0 : 0 < n) (hn : n ≤ 6) (hd : RdII w D n M) (hM : Tab P n M) :
    Calls Tryz.prog 316 #[.agg #[.int .i64 P, .slice A n c], .slice D n d] w fun e w' => e = .returned (.bool true) ∧ Below w.heap.size w w' := by
  have hB0 : Below w.heap.size w (w.alloc (.cells #[.int .i64 P, .slice A n c] 26)) := (Below.refl _ _).alloc (Nat.le_refl _) _
  have k0 : Blk (w.alloc (.cells #[.int .i64 P, .slice A n c] 26)) w.heap.size 26 #[.int .i64 P, .slice A n c] := Blk.new _ _ _
  have HIM := Lib.hid fun w' (h : Below w.heap.size w w') => isMatrix_ok P D n d M n w' hp0 hp1 hn0 (by omega) (by omega) (by omega) (hd.below h) hM
  obtain ⟨g, o, rfl, hx0, A0, c0, hc0, -, -⟩ := (hd.below hB0).at_ hn0
  rw [(hM M[0] (List.getElem_mem hx0)).1, Nat.add_zero] at hc0
  have t4 : ((n : Int) == (n : Int)) = true := by simp
  clear hM hd
  obtain ⟨q0, q1⟩ := k0.two
  go_enter Tryz.func316, Tryz.ntmps316
  go_wp2
  refine wp_obs 21 [[], [0], [], [0, 1, 2], [0, 1, 2, 3], [0, 1, 2, 3, 4], [0, 1, 2, 3, 4, 5], [0, 1, 2, 3, 4], [0, 1, 2, 3, 4, 7], [0, 1, 2, 3, 4, 5, 6, 7, 8], [0, 1, 2, 3, 4, 5, 6, 7, 8, 9], [0, 1, 2, 3, 4, 5, 6, 7, 8, 9, 10], [0, 1, 2, 3, 4, 5, 6, 7, 8, 9, 10, 11], [0, 1, 2, 3, 4, 5, 6, 7, 8, 9, 10, 11, 12], [0, 1, 2, 3, 4, 5, 6, 7, 8, 9, 10, 11, 12, 13], [0, 1, 2, 3, 4, 5, 6, 7, 8, 9, 10, 11, 12, 13, 14], [0, 1, 2, 3, 4, 5, 6, 7, 8, 9, 10, 11], [0, 1, 2, 3, 4, 5, 6, 7, 8, 9, 10, 11, 16], [0, 1, 2, 3, 4, 5, 6, 7, 8, 9, 10, 11, 12, 13, 14, 15, 16, 17], [0, 1, 2, 3, 4, 5, 6, 7, 8, 9, 10, 11, 12, 13, 14, 15, 16, 17, 18], [0, 1, 2, 3, 4, 5, 6, 7, 8, 9, 10, 11, 12, 13, 14, 15, 16, 17, 18, 19]] [VIs (.agg #[.int .i64 P, .slice A n c]), VIs (.int .i64 (P)), VIs (.slice (some ⟨g, o, none⟩) n d), VIs (.bool true), VIs (.bool true), VIs (.slice (some ⟨g, o, none⟩) n d), VIs (.int .i64 (n)), VIs (.agg #[.int .i64 P, .slice A n c]), VIs (.int .i64 (n)), VIs (.bool true), VIs (.bool true), VIs (.bool true), VIs (.slice (some ⟨g, o, none⟩) n d), VIs (.pointer (some ⟨g, o, none⟩)), VIs (.slice A0 n c0), VIs (.int .i64 (n)), VIs (.agg #[.int .i64 P, .slice A n c]), VIs (.int .i64 (n)), VIs (.bool true), VIs (.bool true), VIs (.bool true)] (fun w' => w'.cell? ⟨g, o, none⟩ = some (.slice A0 n c0) ∧ Blk w' w.heap.size 26 #[.int .i64 P, .slice A n c] ∧ Below w.heap.size w w') (by kernel_rfl) (by kernel_rfl) (fun _ _ h hb => ⟨(hb.cell (World.block_lt_of_cell? _ _ h.1)).trans h.1, h.2.1.below hb h.2.1.lt, h.2.2.trans (hb.mono h.2.2.size)⟩) (⟨hc0, k0.drew, hB0.drew⟩) (fun x => ?_)
  refine obs_step (Eq.trans (by simp only [List.getElem?_toArray, List.getElem?_cons_zero]; exact rfl) rfl) rfl (fun w' hS hV K hK => ?_) ?_
  · have q2 := hS.1; obtain ⟨q0, q1⟩ := hS.2.1.two
    go_simp
    exact hK.out _ _ _ rfl rfl rfl (Below.refl _ _)
  simp only [List.setIfInBounds_toArray, List.set_cons_zero, List.set_cons_succ]
  refine obs_step (Eq.trans (by simp only [List.getElem?_toArray, List.getElem?_cons_succ, List.getElem?_cons_zero]; exact rfl) rfl) rfl (fun w' hS hV K hK => ?_) ?_
  · have e0 : x 0 = (.agg #[.int .i64 P, .slice A n c]) := hV 0 (by decide)
    have q2 := hS.1; obtain ⟨q0, q1⟩ := hS.2.1.two
    go_simp
    refine (field_any _ _ _ _ _).mono ?_
    rintro e v1 ⟨rfl, hb⟩
    exact hK.out _ _ _ rfl rfl rfl hb
  simp only [List.setIfInBounds_toArray, List.set_cons_zero, List.set_cons_succ]
  refine obs_step (Eq.trans (by simp only [List.getElem?_toArray, List.getElem?_cons_succ, List.getElem?_cons_zero]; exact rfl) rfl) rfl (fun w' hS hV K hK => ?_) ?_
  · have q2 := hS.1; obtain ⟨q0, q1⟩ := hS.2.1.two
    go_simp
    exact hK.out _ _ _ rfl rfl rfl (Below.refl _ _)
  simp only [List.setIfInBounds_toArray, List.set_cons_zero, List.set_cons_succ]
  refine obs_step (Eq.trans (by simp only [List.getElem?_toArray, List.getElem?_cons_succ, List.getElem?_cons_zero]; exact rfl) rfl) rfl (fun w' hS hV K hK => ?_) ?_
  · have e0 : x 0 = (.agg #[.int .i64 P, .slice A n c]) := hV 0 (by decide)
    have e1 : x 1 = (.int .i64 (P)) := hV 1 (by decide)
    have e2 : x 2 = (.slice (some ⟨g, o, none⟩) n d) := hV 2 (by decide)
    have q2 := hS.1; obtain ⟨q0, q1⟩ := hS.2.1.two
    go_simp
    refine (HIM.out _ hS.2.2).mono ?_
    rintro e v1 ⟨rfl, rfl⟩
    exact hK.out _ _ _ rfl rfl rfl (Below.refl _ _)
  simp only [List.setIfInBounds_toArray, List.set_cons_zero, List.set_cons_succ]
  refine obs_step (Eq.trans (by simp only [List.getElem?_toArray, List.getElem?_cons_succ, List.getElem?_cons_zero]; exact rfl) rfl) rfl (fun w' hS hV K hK => ?_) ?_
  · have e0 : x 0 = (.agg #[.int .i64 P, .slice A n c]) := hV 0 (by decide)
    have e1 : x 1 = (.int .i64 (P)) := hV 1 (by decide)
    have e2 : x 2 = (.slice (some ⟨g, o, none⟩) n d) := hV 2 (by decide)
    have e3 : x 3 = (.bool true) := hV 3 (by decide)
    have q2 := hS.1; obtain ⟨q0, q1⟩ := hS.2.1.two
    go_simp
    exact hK.out _ _ _ rfl rfl rfl (Below.refl _ _)
  simp only [List.setIfInBounds_toArray, List.set_cons_zero, List.set_cons_succ]
  refine obs_step (Eq.trans (by simp only [List.getElem?_toArray, List.getElem?_cons_succ, List.getElem?_cons_zero]; exact rfl) rfl) rfl (fun w' hS hV K hK => ?_) ?_
  · have e0 : x 0 = (.agg #[.int .i64 P, .slice A n c]) := hV 0 (by decide)
    have e1 : x 1 = (.int .i64 (P)) := hV 1 (by decide)
    have e2 : x 2 = (.slice (some ⟨g, o, none⟩) n d) := hV 2 (by decide)
    have e3 : x 3 = (.bool true) := hV 3 (by decide)
    have e4 : x 4 = (.bool true) := hV 4 (by decide)
    have q2 := hS.1; obtain ⟨q0, q1⟩ := hS.2.1.two
    go_simp
    exact hK.out _ _ _ rfl rfl rfl (Below.refl _ _)
  simp only [List.setIfInBounds_toArray, List.set_cons_zero, List.set_cons_succ]
  refine obs_step (Eq.trans (by simp only [List.getElem?_toArray, List.getElem?_cons_succ, List.getElem?_cons_zero]; exact rfl) rfl) rfl (fun w' hS hV K hK => ?_) ?_
  · have e0 : x 0 = (.agg #[.int .i64 P, .slice A n c]) := hV 0 (by decide)
    have e1 : x 1 = (.int .i64 (P)) := hV 1 (by decide)
    have e2 : x 2 = (.slice (some ⟨g, o, none⟩) n d) := hV 2 (by decide)
    have e3 : x 3 = (.bool true) := hV 3 (by decide)
    have e4 : x 4 = (.bool true) := hV 4 (by decide)
    have e5 : x 5 = (.slice (some ⟨g, o, none⟩) n d) := hV 5 (by decide)
    have q2 := hS.1; obtain ⟨q0, q1⟩ := hS.2.1.two
    go_simp
    exact hK.out _ _ _ rfl rfl rfl (Below.refl _ _)
  simp only [List.setIfInBounds_toArray, List.set_cons_zero, List.set_cons_succ]
  refine obs_step (Eq.trans (by simp only [List.getElem?_toArray, List.getElem?_cons_succ, List.getElem?_cons_zero]; exact rfl) rfl) rfl (fun w' hS hV K hK => ?_) ?_
  · have e0 : x 0 = (.agg #[.int .i64 P, .slice A n c]) := hV 0 (by decide)
    have e1 : x 1 = (.int .i64 (P)) := hV 1 (by decide)
    have e2 : x 2 = (.slice (some ⟨g, o, none⟩) n d) := hV 2 (by decide)
    have e3 : x 3 = (.bool true) := hV 3 (by decide)
    have e4 : x 4 = (.bool true) := hV 4 (by decide)
    have q2 := hS.1; obtain ⟨q0, q1⟩ := hS.2.1.two
    go_simp
    exact hK.out _ _ _ rfl rfl rfl (Below.refl _ _)
  simp only [List.setIfInBounds_toArray, List.set_cons_zero, List.set_cons_succ]
  refine obs_step (Eq.trans (by simp only [List.getElem?_toArray, List.getElem?_cons_succ, List.getElem?_cons_zero]; exact rfl) rfl) rfl (fun w' hS hV K hK => ?_) ?_
  · have e0 : x 0 = (.agg #[.int .i64 P, .slice A n c]) := hV 0 (by decide)
    have e1 : x 1 = (.int .i64 (P)) := hV 1 (by decide)
    have e2 : x 2 = (.slice (some ⟨g, o, none⟩) n d) := hV 2 (by decide)
    have e3 : x 3 = (.bool true) := hV 3 (by decide)
    have e4 : x 4 = (.bool true) := hV 4 (by decide)
    have e7 : x 7 = (.agg #[.int .i64 P, .slice A n c]) := hV 7 (by decide)
    have q2 := hS.1; obtain ⟨q0, q1⟩ := hS.2.1.two
    go_simp
    refine (dim_any _ _ _ _ _).mono ?_
    rintro e v1 ⟨rfl, hb⟩
    exact hK.out _ _ _ rfl rfl rfl hb
  simp only [List.setIfInBounds_toArray, List.set_cons_zero, List.set_cons_succ]
  refine obs_step (Eq.trans (by simp only [List.getElem?_toArray, List.getElem?_cons_succ, List.getElem?_cons_zero]; exact rfl) rfl) rfl (fun w' hS hV K hK => ?_) ?_
  · have e0 : x 0 = (.agg #[.int .i64 P, .slice A n c]) := hV 0 (by decide)
    have e1 : x 1 = (.int .i64 (P)) := hV 1 (by decide)
    have e2 : x 2 = (.slice (some ⟨g, o, none⟩) n d) := hV 2 (by decide)
    have e3 : x 3 = (.bool true) := hV 3 (by decide)
    have e4 : x 4 = (.bool true) := hV 4 (by decide)
    have e5 : x 5 = (.slice (some ⟨g, o, none⟩) n d) := hV 5 (by decide)
    have e6 : x 6 = (.int .i64 (n)) := hV 6 (by decide)
    have e7 : x 7 = (.agg #[.int .i64 P, .slice A n c]) := hV 7 (by decide)
    have e8 : x 8 = (.int .i64 (n)) := hV 8 (by decide)
    have q2 := hS.1; obtain ⟨q0, q1⟩ := hS.2.1.two
    go_simp
    exact hK.out _ _ _ rfl rfl rfl (Below.refl _ _)
  simp only [List.setIfInBounds_toArray, List.set_cons_zero, List.set_cons_succ]
  refine obs_step (Eq.trans (by simp only [List.getElem?_toArray, List.getElem?_cons_succ, List.getElem?_cons_zero]; exact rfl) rfl) rfl (fun w' hS hV K hK => ?_) ?_
  · have e0 : x 0 = (.agg #[.int .i64 P, .slice A n c]) := hV 0 (by decide)
    have e1 : x 1 = (.int .i64 (P)) := hV 1 (by decide)
    have e2 : x 2 = (.slice (some ⟨g, o, none⟩) n d) := hV 2 (by decide)
    have e3 : x 3 = (.bool true) := hV 3 (by decide)
    have e4 : x 4 = (.bool true) := hV 4 (by decide)
    have e5 : x 5 = (.slice (some ⟨g, o, none⟩) n d) := hV 5 (by decide)
    have e6 : x 6 = (.int .i64 (n)) := hV 6 (by decide)
    have e7 : x 7 = (.agg #[.int .i64 P, .slice A n c]) := hV 7 (by decide)
    have e8 : x 8 = (.int .i64 (n)) := hV 8 (by decide)
    have e9 : x 9 = (.bool true) := hV 9 (by decide)
    have q2 := hS.1; obtain ⟨q0, q1⟩ := hS.2.1.two
    go_simp
    exact hK.out _ _ _ rfl rfl rfl (Below.refl _ _)
  simp only [List.setIfInBounds_toArray, List.set_cons_zero, List.set_cons_succ]
  refine obs_step (Eq.trans (by simp only [List.getElem?_toArray, List.getElem?_cons_succ, List.getElem?_cons_zero]; exact rfl) rfl) rfl (fun w' hS hV K hK => ?_) ?_
  · have e0 : x 0 = (.agg #[.int .i64 P, .slice A n c]) := hV 0 (by decide)
    have e1 : x 1 = (.int .i64 (P)) := hV 1 (by decide)
    have e2 : x 2 = (.slice (some ⟨g, o, none⟩) n d) := hV 2 (by decide)
    have e3 : x 3 = (.bool true) := hV 3 (by decide)
    have e4 : x 4 = (.bool true) := hV 4 (by decide)
    have e5 : x 5 = (.slice (some ⟨g, o, none⟩) n d) := hV 5 (by decide)
    have e6 : x 6 = (.int .i64 (n)) := hV 6 (by decide)
    have e7 : x 7 = (.agg #[.int .i64 P, .slice A n c]) := hV 7 (by decide)
    have e8 : x 8 = (.int .i64 (n)) := hV 8 (by decide)
    have e9 : x 9 = (.bool true) := hV 9 (by decide)
    have e10 : x 10 = (.bool true) := hV 10 (by decide)
    have q2 := hS.1; obtain ⟨q0, q1⟩ := hS.2.1.two
    go_simp
    exact hK.out _ _ _ rfl rfl rfl (Below.refl _ _)
  simp only [List.setIfInBounds_toArray, List.set_cons_zero, List.set_cons_succ]
  refine obs_step (Eq.trans (by simp only [List.getElem?_toArray, List.getElem?_cons_succ, List.getElem?_cons_zero]; exact rfl) rfl) rfl (fun w' hS hV K hK => ?_) ?_
  · have e0 : x 0 = (.agg #[.int .i64 P, .slice A n c]) := hV 0 (by decide)
    have e1 : x 1 = (.int .i64 (P)) := hV 1 (by decide)
    have e2 : x 2 = (.slice (some ⟨g, o, none⟩) n d) := hV 2 (by decide)
    have e3 : x 3 = (.bool true) := hV 3 (by decide)
    have e4 : x 4 = (.bool true) := hV 4 (by decide)
    have e5 : x 5 = (.slice (some ⟨g, o, none⟩) n d) := hV 5 (by decide)
    have e6 : x 6 = (.int .i64 (n)) := hV 6 (by decide)
    have e7 : x 7 = (.agg #[.int .i64 P, .slice A n c]) := hV 7 (by decide)
    have e8 : x 8 = (.int .i64 (n)) := hV 8 (by decide)
    have e9 : x 9 = (.bool true) := hV 9 (by decide)
    have e10 : x 10 = (.bool true) := hV 10 (by decide)
    have e11 : x 11 = (.bool true) := hV 11 (by decide)
    have q2 := hS.1; obtain ⟨q0, q1⟩ := hS.2.1.two
    go_simp
    exact hK.out _ _ _ rfl rfl rfl (Below.refl _ _)
  simp only [List.setIfInBounds_toArray, List.set_cons_zero, List.set_cons_succ]
  refine obs_step (Eq.trans (by simp only [List.getElem?_toArray, List.getElem?_cons_succ, List.getElem?_cons_zero]; exact rfl) rfl) rfl (fun w' hS hV K hK => ?_) ?_
  · have e0 : x 0 = (.agg #[.int .i64 P, .slice A n c]) := hV 0 (by decide)
    have e1 : x 1 = (.int .i64 (P)) := hV 1 (by decide)
    have e2 : x 2 = (.slice (some ⟨g, o, none⟩) n d) := hV 2 (by decide)
    have e3 : x 3 = (.bool true) := hV 3 (by decide)
    have e4 : x 4 = (.bool true) := hV 4 (by decide)
    have e5 : x 5 = (.slice (some ⟨g, o, none⟩) n d) := hV 5 (by decide)
    have e6 : x 6 = (.int .i64 (n)) := hV 6 (by decide)
    have e7 : x 7 = (.agg #[.int .i64 P, .slice A n c]) := hV 7 (by decide)
    have e8 : x 8 = (.int .i64 (n)) := hV 8 (by decide)
    have e9 : x 9 = (.bool true) := hV 9 (by decide)
    have e10 : x 10 = (.bool true) := hV 10 (by decide)
    have e11 : x 11 = (.bool true) := hV 11 (by decide)
    have e12 : x 12 = (.slice (some ⟨g, o, none⟩) n d) := hV 12 (by decide)
    have q2 := hS.1; obtain ⟨q0, q1⟩ := hS.2.1.two
    go_simp
    exact hK.out _ _ _ rfl rfl rfl (Below.refl _ _)
  simp only [List.setIfInBounds_toArray, List.set_cons_zero, List.set_cons_succ]
  refine obs_step (Eq.trans (by simp only [List.getElem?_toArray, List.getElem?_cons_succ, List.getElem?_cons_zero]; exact rfl) rfl) rfl (fun w' hS hV K hK => ?_) ?_
  · have e0 : x 0 = (.agg #[.int .i64 P, .slice A n c]) := hV 0 (by decide)
    have e1 : x 1 = (.int .i64 (P)) := hV 1 (by decide)
    have e2 : x 2 = (.slice (some ⟨g, o, none⟩) n d) := hV 2 (by decide)
    have e3 : x 3 = (.bool true) := hV 3 (by decide)
    have e4 : x 4 = (.bool true) := hV 4 (by decide)
    have e5 : x 5 = (.slice (some ⟨g, o, none⟩) n d) := hV 5 (by decide)
    have e6 : x 6 = (.int .i64 (n)) := hV 6 (by decide)
    have e7 : x 7 = (.agg #[.int .i64 P, .slice A n c]) := hV 7 (by decide)
    have e8 : x 8 = (.int .i64 (n)) := hV 8 (by decide)
    have e9 : x 9 = (.bool true) := hV 9 (by decide)
    have e10 : x 10 = (.bool true) := hV 10 (by decide)
    have e11 : x 11 = (.bool true) := hV 11 (by decide)
    have e12 : x 12 = (.slice (some ⟨g, o, none⟩) n d) := hV 12 (by decide)
    have e13 : x 13 = (.pointer (some ⟨g, o, none⟩)) := hV 13 (by decide)
    have q2 := hS.1; obtain ⟨q0, q1⟩ := hS.2.1.two
    go_simp
    exact hK.out _ _ _ rfl rfl rfl (Below.refl _ _)
  simp only [List.setIfInBounds_toArray, List.set_cons_zero, List.set_cons_succ]
  refine obs_step (Eq.trans (by simp only [List.getElem?_toArray, List.getElem?_cons_succ, List.getElem?_cons_zero]; exact rfl) rfl) rfl (fun w' hS hV K hK => ?_) ?_
  · have e0 : x 0 = (.agg #[.int .i64 P, .slice A n c]) := hV 0 (by decide)
    have e1 : x 1 = (.int .i64 (P)) := hV 1 (by decide)
    have e2 : x 2 = (.slice (some ⟨g, o, none⟩) n d) := hV 2 (by decide)
    have e3 : x 3 = (.bool true) := hV 3 (by decide)
    have e4 : x 4 = (.bool true) := hV 4 (by decide)
    have e5 : x 5 = (.slice (some ⟨g, o, none⟩) n d) := hV 5 (by decide)
    have e6 : x 6 = (.int .i64 (n)) := hV 6 (by decide)
    have e7 : x 7 = (.agg #[.int .i64 P, .slice A n c]) := hV 7 (by decide)
    have e8 : x 8 = (.int .i64 (n)) := hV 8 (by decide)
    have e9 : x 9 = (.bool true) := hV 9 (by decide)
    have e10 : x 10 = (.bool true) := hV 10 (by decide)
    have e11 : x 11 = (.bool true) := hV 11 (by decide)
    have e12 : x 12 = (.slice (some ⟨g, o, none⟩) n d) := hV 12 (by decide)
    have e13 : x 13 = (.pointer (some ⟨g, o, none⟩)) := hV 13 (by decide)
    have e14 : x 14 = (.slice A0 n c0) := hV 14 (by decide)
    have q2 := hS.1; obtain ⟨q0, q1⟩ := hS.2.1.two
    go_simp
    exact hK.out _ _ _ rfl rfl rfl (Below.refl _ _)
  simp only [List.setIfInBounds_toArray, List.set_cons_zero, List.set_cons_succ]
  refine obs_step (Eq.trans (by simp only [List.getElem?_toArray, List.getElem?_cons_succ, List.getElem?_cons_zero]; exact rfl) rfl) rfl (fun w' hS hV K hK => ?_) ?_
  · have e0 : x 0 = (.agg #[.int .i64 P, .slice A n c]) := hV 0 (by decide)
    have e1 : x 1 = (.int .i64 (P)) := hV 1 (by decide)
    have e2 : x 2 = (.slice (some ⟨g, o, none⟩) n d) := hV 2 (by decide)
    have e3 : x 3 = (.bool true) := hV 3 (by decide)
    have e4 : x 4 = (.bool true) := hV 4 (by decide)
    have e5 : x 5 = (.slice (some ⟨g, o, none⟩) n d) := hV 5 (by decide)
    have e6 : x 6 = (.int .i64 (n)) := hV 6 (by decide)
    have e7 : x 7 = (.agg #[.int .i64 P, .slice A n c]) := hV 7 (by decide)
    have e8 : x 8 = (.int .i64 (n)) := hV 8 (by decide)
    have e9 : x 9 = (.bool true) := hV 9 (by decide)
    have e10 : x 10 = (.bool true) := hV 10 (by decide)
    have e11 : x 11 = (.bool true) := hV 11 (by decide)
    have q2 := hS.1; obtain ⟨q0, q1⟩ := hS.2.1.two
    go_simp
    exact hK.out _ _ _ rfl rfl rfl (Below.refl _ _)
  simp only [List.setIfInBounds_toArray, List.set_cons_zero, List.set_cons_succ]
  refine obs_step (Eq.trans (by simp only [List.getElem?_toArray, List.getElem?_cons_succ, List.getElem?_cons_zero]; exact rfl) rfl) rfl (fun w' hS hV K hK => ?_) ?_
  · have e0 : x 0 = (.agg #[.int .i64 P, .slice A n c]) := hV 0 (by decide)
    have e1 : x 1 = (.int .i64 (P)) := hV 1 (by decide)
    have e2 : x 2 = (.slice (some ⟨g, o, none⟩) n d) := hV 2 (by decide)
    have e3 : x 3 = (.bool true) := hV 3 (by decide)
    have e4 : x 4 = (.bool true) := hV 4 (by decide)
    have e5 : x 5 = (.slice (some ⟨g, o, none⟩) n d) := hV 5 (by decide)
    have e6 : x 6 = (.int .i64 (n)) := hV 6 (by decide)
    have e7 : x 7 = (.agg #[.int .i64 P, .slice A n c]) := hV 7 (by decide)
    have e8 : x 8 = (.int .i64 (n)) := hV 8 (by decide)
    have e9 : x 9 = (.bool true) := hV 9 (by decide)
    have e10 : x 10 = (.bool true) := hV 10 (by decide)
    have e11 : x 11 = (.bool true) := hV 11 (by decide)
    have e16 : x 16 = (.agg #[.int .i64 P, .slice A n c]) := hV 16 (by decide)
    have q2 := hS.1; obtain ⟨q0, q1⟩ := hS.2.1.two
    go_simp
    refine (dim_any _ _ _ _ _).mono ?_
    rintro e v1 ⟨rfl, hb⟩
    exact hK.out _ _ _ rfl rfl rfl hb
  simp only [List.setIfInBounds_toArray, List.set_cons_zero, List.set_cons_succ]
  refine obs_step (Eq.trans (by simp only [List.getElem?_toArray, List.getElem?_cons_succ, List.getElem?_cons_zero]; exact rfl) rfl) rfl (fun w' hS hV K hK => ?_) ?_
  · have e0 : x 0 = (.agg #[.int .i64 P, .slice A n c]) := hV 0 (by decide)
    have e1 : x 1 = (.int .i64 (P)) := hV 1 (by decide)
    have e2 : x 2 = (.slice (some ⟨g, o, none⟩) n d) := hV 2 (by decide)
    have e3 : x 3 = (.bool true) := hV 3 (by decide)
    have e4 : x 4 = (.bool true) := hV 4 (by decide)
    have e5 : x 5 = (.slice (some ⟨g, o, none⟩) n d) := hV 5 (by decide)
    have e6 : x 6 = (.int .i64 (n)) := hV 6 (by decide)
    have e7 : x 7 = (.agg #[.int .i64 P, .slice A n c]) := hV 7 (by decide)
    have e8 : x 8 = (.int .i64 (n)) := hV 8 (by decide)
    have e9 : x 9 = (.bool true) := hV 9 (by decide)
    have e10 : x 10 = (.bool true) := hV 10 (by decide)
    have e11 : x 11 = (.bool true) := hV 11 (by decide)
    have e12 : x 12 = (.slice (some ⟨g, o, none⟩) n d) := hV 12 (by decide)
    have e13 : x 13 = (.pointer (some ⟨g, o, none⟩)) := hV 13 (by decide)
    have e14 : x 14 = (.slice A0 n c0) := hV 14 (by decide)
    have e15 : x 15 = (.int .i64 (n)) := hV 15 (by decide)
    have e16 : x 16 = (.agg #[.int .i64 P, .slice A n c]) := hV 16 (by decide)
    have e17 : x 17 = (.int .i64 (n)) := hV 17 (by decide)
    have q2 := hS.1; obtain ⟨q0, q1⟩ := hS.2.1.two
    go_simp
    exact hK.out _ _ _ rfl rfl rfl (Below.refl _ _)
  simp only [List.setIfInBounds_toArray, List.set_cons_zero, List.set_cons_succ]
  refine obs_step (Eq.trans (by simp only [List.getElem?_toArray, List.getElem?_cons_succ, List.getElem?_cons_zero]; exact rfl) rfl) rfl (fun w' hS hV K hK => ?_) ?_
  · have e0 : x 0 = (.agg #[.int .i64 P, .slice A n c]) := hV 0 (by decide)
    have e1 : x 1 = (.int .i64 (P)) := hV 1 (by decide)
    have e2 : x 2 = (.slice (some ⟨g, o, none⟩) n d) := hV 2 (by decide)
    have e3 : x 3 = (.bool true) := hV 3 (by decide)
    have e4 : x 4 = (.bool true) := hV 4 (by decide)
    have e5 : x 5 = (.slice (some ⟨g, o, none⟩) n d) := hV 5 (by decide)
    have e6 : x 6 = (.int .i64 (n)) := hV 6 (by decide)
    have e7 : x 7 = (.agg #[.int .i64 P, .slice A n c]) := hV 7 (by decide)
    have e8 : x 8 = (.int .i64 (n)) := hV 8 (by decide)
    have e9 : x 9 = (.bool true) := hV 9 (by decide)
    have e10 : x 10 = (.bool true) := hV 10 (by decide)
    have e11 : x 11 = (.bool true) := hV 11 (by decide)
    have e12 : x 12 = (.slice (some ⟨g, o, none⟩) n d) := hV 12 (by decide)
    have e13 : x 13 = (.pointer (some ⟨g, o, none⟩)) := hV 13 (by decide)
    have e14 : x 14 = (.slice A0 n c0) := hV 14 (by decide)
    have e15 : x 15 = (.int .i64 (n)) := hV 15 (by decide)
    have e16 : x 16 = (.agg #[.int .i64 P, .slice A n c]) := hV 16 (by decide)
    have e17 : x 17 = (.int .i64 (n)) := hV 17 (by decide)
    have e18 : x 18 = (.bool true) := hV 18 (by decide)
    have q2 := hS.1; obtain ⟨q0, q1⟩ := hS.2.1.two
    go_simp
    exact hK.out _ _ _ rfl rfl rfl (Below.refl _ _)
  simp only [List.setIfInBounds_toArray, List.set_cons_zero, List.set_cons_succ]
  refine obs_step (Eq.trans (by simp only [List.getElem?_toArray, List.getElem?_cons_succ, List.getElem?_cons_zero]; exact rfl) rfl) rfl (fun w' hS hV K hK => ?_) ?_
  · have e0 : x 0 = (.agg #[.int .i64 P, .slice A n c]) := hV 0 (by decide)
    have e1 : x 1 = (.int .i64 (P)) := hV 1 (by decide)
    have e2 : x 2 = (.slice (some ⟨g, o, none⟩) n d) := hV 2 (by decide)
    have e3 : x 3 = (.bool true) := hV 3 (by decide)
    have e4 : x 4 = (.bool true) := hV 4 (by decide)
    have e5 : x 5 = (.slice (some ⟨g, o, none⟩) n d) := hV 5 (by decide)
    have e6 : x 6 = (.int .i64 (n)) := hV 6 (by decide)
    have e7 : x 7 = (.agg #[.int .i64 P, .slice A n c]) := hV 7 (by decide)
    have e8 : x 8 = (.int .i64 (n)) := hV 8 (by decide)
    have e9 : x 9 = (.bool true) := hV 9 (by decide)
    have e10 : x 10 = (.bool true) := hV 10 (by decide)
    have e11 : x 11 = (.bool true) := hV 11 (by decide)
    have e12 : x 12 = (.slice (some ⟨g, o, none⟩) n d) := hV 12 (by decide)
    have e13 : x 13 = (.pointer (some ⟨g, o, none⟩)) := hV 13 (by decide)
    have e14 : x 14 = (.slice A0 n c0) := hV 14 (by decide)
    have e15 : x 15 = (.int .i64 (n)) := hV 15 (by decide)
    have e16 : x 16 = (.agg #[.int .i64 P, .slice A n c]) := hV 16 (by decide)
    have e17 : x 17 = (.int .i64 (n)) := hV 17 (by decide)
    have e18 : x 18 = (.bool true) := hV 18 (by decide)
    have e19 : x 19 = (.bool true) := hV 19 (by decide)
    have q2 := hS.1; obtain ⟨q0, q1⟩ := hS.2.1.two
    go_simp
    exact hK.out _ _ _ rfl rfl rfl (Below.refl _ _)
  simp only [List.setIfInBounds_toArray, List.set_cons_zero, List.set_cons_succ]
  refine fun w' hS hV => ?_
  have e0 : x 0 = (.agg #[.int .i64 P, .slice A n c]) := hV 0 (by decide)
  have e1 : x 1 = (.int .i64 (P)) := hV 1 (by decide)
  have e2 : x 2 = (.slice (some ⟨g, o, none⟩) n d) := hV 2 (by decide)
  have e3 : x 3 = (.bool true) := hV 3 (by decide)
  have e4 : x 4 = (.bool true) := hV 4 (by decide)
  have e5 : x 5 = (.slice (some ⟨g, o, none⟩) n d) := hV 5 (by decide)
  have e6 : x 6 = (.int .i64 (n)) := hV 6 (by decide)
  have e7 : x 7 = (.agg #[.int .i64 P, .slice A n c]) := hV 7 (by decide)
  have e8 : x 8 = (.int .i64 (n)) := hV 8 (by decide)
  have e9 : x 9 = (.bool true) := hV 9 (by decide)
  have e10 : x 10 = (.bool true) := hV 10 (by decide)
  have e11 : x 11 = (.bool true) := hV 11 (by decide)
  have e12 : x 12 = (.slice (some ⟨g, o, none⟩) n d) := hV 12 (by decide)
  have e13 : x 13 = (.pointer (some ⟨g, o, none⟩)) := hV 13 (by decide)
  have e14 : x 14 = (.slice A0 n c0) := hV 14 (by decide)
  have e15 : x 15 = (.int .i64 (n)) := hV 15 (by decide)
  have e16 : x 16 = (.agg #[.int .i64 P, .slice A n c]) := hV 16 (by decide)
  have e17 : x 17 = (.int .i64 (n)) := hV 17 (by decide)
  have e18 : x 18 = (.bool true) := hV 18 (by decide)
  have e19 : x 19 = (.bool true) := hV 19 (by decide)
  have e20 : x 20 = (.bool true) := hV 20 (by decide)
  simp only [e0, e1, e2, e3, e4, e5, e6, e7, e8, e9, e10, e11, e12, e13, e14, e15, e16, e17, e18, e19, e20]
  clear e0 e1 e2 e3 e4 e5 e6 e7 e8 e9 e10 e11 e12 e13 e14 e15 e16 e17 e18 e19 e20
  refine wpAny_done (by kernel_rfl) ?_ _
  have hb9 := hS.2.2
  go_wp2
  go_ret
  exact ⟨rfl, hb9⟩
set_option maxHeartbeats 1600000 in
theorem checkFrame_ok (P : Int) (A : Option Addr) (n c : Nat) (sq : List Int) (D : Option Addr) (d : Nat) (M : List (List Int)) (w : World) (hsp : isSp P sq = true) (hreg : regB sq = true) (ha : Rd w A n (ints sq)) (hd : RdII w D n M) (hM : Tab P n M) :
    Calls Tryz.prog 197 #[.agg #[.int .i64 P, .slice A n c], .slice D n d] w fun e w' => e = .returned (.int .i64 0) ∧ Below w.heap.size w w' := by
  have hB0 : Below w.heap.size w (w.alloc (.cells #[.int .i64 P, .slice A n c] 26)) := (Below.refl _ _).alloc (Nat.le_refl _) _
  have k0 : Blk (w.alloc (.cells #[.int .i64 P, .slice A n c] 26)) w.heap.size 26 #[.int .i64 P, .slice A n c] := Blk.new _ _ _
  have hsl := ha.lenI
  obtain ⟨HP, hd1, hd2, hnum⟩ := isSp_dim hsp
  obtain ⟨hp3, hp2⟩ := isP_ge HP
  rw [hsl] at hd1 hd2
  have his := IsSpace_any P A n c sq (w.alloc (.cells #[.int .i64 P, .slice A n c] 26)) (by omega) (ha.below hB0)
  rw [hsp] at his
  have hfr := Lib.hid fun w' (h : Below w.heap.size w w') => isFrame_ok P A n c sq D d M w' (by omega) hp2 (by omega) (by omega) (hd.below h) hM
  have hrg := Lib.hid fun w' (h : Below w.heap.size w w') => regular_any P A n c sq w' (by omega) (ha.below h)
  have HRG := Lib.hid hreg
  obtain ⟨q0, q1⟩ := k0.two
  clear hsp hM hsl hnum HP hreg
  go_enter Tryz.func197, Tryz.ntmps197
  go_wp2_with fail
  refine his.mono ?_
  rintro e w2 ⟨rfl, hb2⟩
  have hB2 := hB0.trans (hb2.mono hB0.size)
  have k2 := k0.below hb2 k0.lt
  have hcall := hfr.out w2 hB2
  clear q0 q1 his
  obtain ⟨q0, q1⟩ := k2.two
  go_wp2_with fail
  refine hcall.mono ?_
  rintro e w3 ⟨rfl, hb3⟩
  have hB3 := hB2.trans (hb3.mono hB2.size)
  have k3 := k2.below hb3 k2.lt
  have hcal2 := hrg.out w3 hB3
  rw [HRG.out] at hcal2
  clear q0 q1 hcall
  obtain ⟨q0, q1⟩ := k3.two
  go_wp2_with fail
  refine hcal2.mono ?_
  rintro e w4 ⟨rfl, hb4⟩
  go_wp2
  go_ret
  exact ⟨rfl, hB3.trans (hb4.mono hB3.size)⟩
set_option maxHeartbeats 3200000 in
set_option maxRecDepth 8000 in
theorem isSkew_ok (P : Int) (A : Option Addr) (n c : Nat) (sq : List Int) (D : Option Addr) (d : Nat) (M : List (List Int)) (w : World) (hp : 2 ≤ P) (hp2 : P ≤ 13) (hn : n ≤ 6) (ha : Rd w A n (ints sq)) (hs : NumsL P sq) (hd : RdII w D n M) (hM : Tab P n M) (hsk : ∀ i k, i < n → k < n → (sq.getD k 0 * ent M k i + sq.getD i 0 * ent M i k) % P = 0) :
    Calls Tryz.prog 198 #[.agg #[.int .i64 P, .slice A n c], .slice D n d] w fun e w' => e = .returned (.bool true) ∧ Below w.heap.size w w' := by
  have hB0 : Below w.heap.size w (w.alloc (.cells #[.int .i64 P, .slice A n c] 26)) := (Below.refl _ _).alloc (Nat.le_refl _) _
  have k0 : Blk (w.alloc (.cells #[.int .i64 P, .slice A n c] 26)) w.heap.size 26 #[.int .i64 P, .slice A n c] := Blk.new _ _ _
  have HM := Lib.hid hM
  have HSN := Lib.hid hs
  have HSK := Lib.hid hsk
  have HSL := Lib.hid ha.lenI
  clear hM hs hsk
  obtain ⟨q0, q1⟩ := k0.two
  go_enter Tryz.func198, Tryz.ntmps198
  go_wp2
  clear q0 q1
  go_loopw [9] (fun i wr => ∃ j : Nat, j ≤ n ∧ i = .int .i64 j ∧ Blk wr w.heap.size 26 #[.int .i64 P, .slice A n c] ∧ Below w.heap.size w wr) (fun i _ => n - (intOf i).toNat)
  case atStart => exact ⟨0, by omega, rfl, k0, hB0⟩
  case round =>
    obtain ⟨i, hi, rfl, k1, hB1⟩ := hrel
    clear k0 hB0
    by_cases hlt : i < n
    · go_wp2
      go_loopw [14] (fun i wr => ∃ j : Nat, j ≤ n ∧ i = .int .i64 j ∧ Blk wr w.heap.size 26 #[.int .i64 P, .slice A n c] ∧ Below w.heap.size w wr) (fun i _ => n - (intOf i).toNat)
      case atStart => exact ⟨0, by omega, rfl, k1, hB1⟩
      case round =>
        obtain ⟨k, hk, rfl, kk, hB⟩ := hrel
        clear k1 hB1
        by_cases hkt : k < n
        · have hcl : ∃ (ga oa g o gk ok gi oi ck ci : Nat) (sk si mki mik : Int), A = some ⟨ga, oa, none⟩ ∧ D = some ⟨g, o, none⟩ ∧ sk = sq.getD k 0 ∧ si = sq.getD i 0 ∧ mki = ent M k i ∧ mik = ent M i k ∧
              Hid (∀ w', Below wr.heap.size wr w' → w'.cell? ⟨ga, oa + k, none⟩ = some (.int .i64 sk) ∧ w'.cell? ⟨g, o + k, none⟩ = some (.slice (some ⟨gk, ok, none⟩) n ck) ∧ w'.cell? ⟨gk, ok + i, none⟩ = some (.int .i64 mki) ∧ w'.cell? ⟨ga, oa + i, none⟩ = some (.int .i64 si) ∧ w'.cell? ⟨g, o + i, none⟩ = some (.slice (some ⟨gi, oi, none⟩) n ci) ∧ w'.cell? ⟨gi, oi + k, none⟩ = some (.int .i64 mik)) := by
            obtain ⟨ga, oa, rfl, hxk, hck⟩ := (ha.below hB).int hkt
            obtain ⟨ga', oa', e1, hxi, hci⟩ := (ha.below hB).int hlt
            cases e1
            obtain ⟨g, o, rfl, hyk, Ak, ck, hdk, hrk, -⟩ := (hd.below hB).at_ hkt
            obtain ⟨g', o', e2, hyi, Ai, ci, hdi, hri, -⟩ := (hd.below hB).at_ hlt
            cases e2
            have lk := (HM.out M[k] (List.getElem_mem hyk)).1
            have li := (HM.out M[i] (List.getElem_mem hyi)).1
            rw [lk] at hdk hrk
            rw [li] at hdi hri
            obtain ⟨gk, ok, rfl, hzk, hek⟩ := hrk.int hlt
            obtain ⟨gi, oi, rfl, hzi, hei⟩ := hri.int hkt
            refine ⟨ga, oa, g, o, gk, ok, gi, oi, ck, ci, sq[k], sq[i], M[k][i], M[i][k], rfl, rfl, (getD_of_lt 0 hxk).symm, (getD_of_lt 0 hxi).symm, (ent_at hyk hzk).symm, (ent_at hyi hzi).symm, Lib.hid fun w' h => ⟨?_, ?_, ?_, ?_, ?_, ?_⟩⟩
            · exact (h.cell (World.block_lt_of_cell? _ _ hck)).trans hck
            · exact (h.cell (World.block_lt_of_cell? _ _ hdk)).trans hdk
            · exact (h.cell (World.block_lt_of_cell? _ _ hek)).trans hek
            · exact (h.cell (World.block_lt_of_cell? _ _ hci)).trans hci
            · exact (h.cell (World.block_lt_of_cell? _ _ hdi)).trans hdi
            · exact (h.cell (World.block_lt_of_cell? _ _ hei)).trans hei
          obtain ⟨ga, oa, g, o, gk, ok, gi, oi, ck, ci, sk, si, mki, mik, rfl, rfl, e1, e2, e3, e4, HC⟩ := hcl
          have b1 : 0 ≤ sk ∧ sk < P := by rw [e1]; exact HSN.out.getD (by omega) k
          have b2 : 0 ≤ si ∧ si < P := by rw [e2]; exact HSN.out.getD (by omega) i
          have b3 : 0 ≤ mki ∧ mki < P := by rw [e3]; exact HM.out.ent (by omega) k i
          have b4 : 0 ≤ mik ∧ mik < P := by rw [e4]; exact HM.out.ent (by omega) i k
          have h0 := HSK.out i k hlt hkt
          rw [← e1, ← e2, ← e3, ← e4] at h0
          have m1 := mul_two_small hp2 b1 b3
          have m2 := mul_two_small hp2 b2 b4
          have W1 := i64_fit (sk * mki) (by omega) (by omega)
          have W2 := i64_fit (si * mik) (by omega) (by omega)
          have W3 := i64_fit (sk * mki + si * mik) (by omega) (by omega)
          have hnum9 := fun w' => num_any P (sk * mki + si * mik) w' (by omega) hp2 (by omega) (by omega)
          rw [h0] at hnum9
          clear e1 e2 e3 e4 h0 m1 m2 b1 b2 b3 b4
          obtain ⟨q0, q1⟩ := kk.two
          go_wp2
          refine wp_obs 31 [[], [0], [], [2], [], [2, 3, 4], [2, 3, 4, 5], [], [], [7, 8], [7, 8, 9], [], [7, 8, 9, 10, 11], [7, 8, 9, 10, 11, 12], [2, 3, 4, 5, 6, 7, 8, 9, 10, 11, 12, 13], [], [15], [], [15, 16, 17], [15, 16, 17, 18], [], [], [20, 21], [20, 21, 22], [], [20, 21, 22, 23, 24], [20, 21, 22, 23, 24, 25], [15, 16, 17, 18, 19, 20, 21, 22, 23, 24, 25, 26], [2, 3, 4, 5, 6, 7, 8, 9, 10, 11, 12, 13, 14, 15, 16, 17, 18, 19, 20, 21, 22, 23, 24, 25, 26, 27], [0, 1, 2, 3, 4, 5, 6, 7, 8, 9, 10, 11, 12, 13, 14, 15, 16, 17, 18, 19, 20, 21, 22, 23, 24, 25, 26, 27, 28], [0, 1, 2, 3, 4, 5, 6, 7, 8, 9, 10, 11, 12, 13, 14, 15, 16, 17, 18, 19, 20, 21, 22, 23, 24, 25, 26, 27, 28, 29]] [VIs (.agg #[.int .i64 P, .slice (some ⟨ga, oa, none⟩) n c]), VIs (.int .i64 (P)), VIs (.pointer (some ⟨w.heap.size, 1, none⟩)), VIs (.slice (some ⟨ga, oa, none⟩) n c), VIs (.int .i64 (k)), VIs (.pointer (some ⟨ga, oa + k, none⟩)), VIs (.int .i64 (sk)), VIs (.slice (some ⟨g, o, none⟩) n d), VIs (.int .i64 (k)), VIs (.pointer (some ⟨g, o + k, none⟩)), VIs (.slice (some ⟨gk, ok, none⟩) n ck), VIs (.int .i64 (i)), VIs (.pointer (some ⟨gk, ok + i, none⟩)), VIs (.int .i64 (mki)), VIs (.int .i64 (sk * mki)), VIs (.pointer (some ⟨w.heap.size, 1, none⟩)), VIs (.slice (some ⟨ga, oa, none⟩) n c), VIs (.int .i64 (i)), VIs (.pointer (some ⟨ga, oa + i, none⟩)), VIs (.int .i64 (si)), VIs (.slice (some ⟨g, o, none⟩) n d), VIs (.int .i64 (i)), VIs (.pointer (some ⟨g, o + i, none⟩)), VIs (.slice (some ⟨gi, oi, none⟩) n ci), VIs (.int .i64 (k)), VIs (.pointer (some ⟨gi, oi + k, none⟩)), VIs (.int .i64 (mik)), VIs (.int .i64 (si * mik)), VIs (.int .i64 (sk * mki + si * mik)), VIs (.int .i64 (0)), VIs (.bool false)] (fun w' => Blk w' w.heap.size 26 #[.int .i64 P, .slice (some ⟨ga, oa, none⟩) n c] ∧ Below wr.heap.size wr w') (by kernel_rfl) (by kernel_rfl) (fun _ _ h hb => ⟨h.1.below hb h.1.lt, h.2.trans (hb.mono h.2.size)⟩) (⟨kk.drew, (Below.refl _ _).drew⟩) (fun x => ?_)
          refine obs_step (Eq.trans (by simp only [List.getElem?_toArray, List.getElem?_cons_zero]; exact rfl) rfl) rfl (fun w' hS hV K hK => ?_) ?_
          · obtain ⟨q0, q1⟩ := hS.1.two; obtain ⟨q2, q3, q4, q5, q6, q7⟩ := HC.out _ hS.2
            go_simp
            exact hK.out _ _ _ rfl rfl rfl (Below.refl _ _)
          simp only [List.setIfInBounds_toArray, List.set_cons_zero, List.set_cons_succ]
          refine obs_step (Eq.trans (by simp only [List.getElem?_toArray, List.getElem?_cons_succ, List.getElem?_cons_zero]; exact rfl) rfl) rfl (fun w' hS hV K hK => ?_) ?_
          · have e0 : x 0 = (.agg #[.int .i64 P, .slice (some ⟨ga, oa, none⟩) n c]) := hV 0 (by decide)
            obtain ⟨q0, q1⟩ := hS.1.two; obtain ⟨q2, q3, q4, q5, q6, q7⟩ := HC.out _ hS.2
            go_simp
            refine (field_any _ _ _ _ _).mono ?_
            rintro e v1 ⟨rfl, hb⟩
            exact hK.out _ _ _ rfl rfl rfl hb
          simp only [List.setIfInBounds_toArray, List.set_cons_zero, List.set_cons_succ]
          refine obs_step (Eq.trans (by simp only [List.getElem?_toArray, List.getElem?_cons_succ, List.getElem?_cons_zero]; exact rfl) rfl) rfl (fun w' hS hV K hK => ?_) ?_
          · obtain ⟨q0, q1⟩ := hS.1.two; obtain ⟨q2, q3, q4, q5, q6, q7⟩ := HC.out _ hS.2
            go_simp
            exact hK.out _ _ _ rfl rfl rfl (Below.refl _ _)
          simp only [List.setIfInBounds_toArray, List.set_cons_zero, List.set_cons_succ]
          refine obs_step (Eq.trans (by simp only [List.getElem?_toArray, List.getElem?_cons_succ, List.getElem?_cons_zero]; exact rfl) rfl) rfl (fun w' hS hV K hK => ?_) ?_
          · have e2 : x 2 = (.pointer (some ⟨w.heap.size, 1, none⟩)) := hV 2 (by decide)
            obtain ⟨q0, q1⟩ := hS.1.two; obtain ⟨q2, q3, q4, q5, q6, q7⟩ := HC.out _ hS.2
            go_simp
            exact hK.out _ _ _ rfl rfl rfl (Below.refl _ _)
          simp only [List.setIfInBounds_toArray, List.set_cons_zero, List.set_cons_succ]
          refine obs_step (Eq.trans (by simp only [List.getElem?_toArray, List.getElem?_cons_succ, List.getElem?_cons_zero]; exact rfl) rfl) rfl (fun w' hS hV K hK => ?_) ?_
          · obtain ⟨q0, q1⟩ := hS.1.two; obtain ⟨q2, q3, q4, q5, q6, q7⟩ := HC.out _ hS.2
            go_simp
            exact hK.out _ _ _ rfl rfl rfl (Below.refl _ _)
          simp only [List.setIfInBounds_toArray, List.set_cons_zero, List.set_cons_succ]
          refine obs_step (Eq.trans (by simp only [List.getElem?_toArray, List.getElem?_cons_succ, List.getElem?_cons_zero]; exact rfl) rfl) rfl (fun w' hS hV K hK => ?_) ?_
          · have e2 : x 2 = (.pointer (some ⟨w.heap.size, 1, none⟩)) := hV 2 (by decide)
            have e3 : x 3 = (.slice (some ⟨ga, oa, none⟩) n c) := hV 3 (by decide)
            have e4 : x 4 = (.int .i64 (k)) := hV 4 (by decide)
            obtain ⟨q0, q1⟩ := hS.1.two; obtain ⟨q2, q3, q4, q5, q6, q7⟩ := HC.out _ hS.2
            go_simp
            exact hK.out _ _ _ rfl rfl rfl (Below.refl _ _)
          simp only [List.setIfInBounds_toArray, List.set_cons_zero, List.set_cons_succ]
          refine obs_step (Eq.trans (by simp only [List.getElem?_toArray, List.getElem?_cons_succ, List.getElem?_cons_zero]; exact rfl) rfl) rfl (fun w' hS hV K hK => ?_) ?_
          · have e2 : x 2 = (.pointer (some ⟨w.heap.size, 1, none⟩)) := hV 2 (by decide)
            have e3 : x 3 = (.slice (some ⟨ga, oa, none⟩) n c) := hV 3 (by decide)
            have e4 : x 4 = (.int .i64 (k)) := hV 4 (by decide)
            have e5 : x 5 = (.pointer (some ⟨ga, oa + k, none⟩)) := hV 5 (by decide)
            obtain ⟨q0, q1⟩ := hS.1.two; obtain ⟨q2, q3, q4, q5, q6, q7⟩ := HC.out _ hS.2
            go_simp
            exact hK.out _ _ _ rfl rfl rfl (Below.refl _ _)
          simp only [List.setIfInBounds_toArray, List.set_cons_zero, List.set_cons_succ]
          refine obs_step (Eq.trans (by simp only [List.getElem?_toArray, List.getElem?_cons_succ, List.getElem?_cons_zero]; exact rfl) rfl) rfl (fun w' hS hV K hK => ?_) ?_
          · obtain ⟨q0, q1⟩ := hS.1.two; obtain ⟨q2, q3, q4, q5, q6, q7⟩ := HC.out _ hS.2
            go_simp
            exact hK.out _ _ _ rfl rfl rfl (Below.refl _ _)
          simp only [List.setIfInBounds_toArray, List.set_cons_zero, List.set_cons_succ]
          refine obs_step (Eq.trans (by simp only [List.getElem?_toArray, List.getElem?_cons_succ, List.getElem?_cons_zero]; exact rfl) rfl) rfl (fun w' hS hV K hK => ?_) ?_
          · obtain ⟨q0, q1⟩ := hS.1.two; obtain ⟨q2, q3, q4, q5, q6, q7⟩ := HC.out _ hS.2
            go_simp
            exact hK.out _ _ _ rfl rfl rfl (Below.refl _ _)
          simp only [List.setIfInBounds_toArray, List.set_cons_zero, List.set_cons_succ]
          refine obs_step (Eq.trans (by simp only [List.getElem?_toArray, List.getElem?_cons_succ, List.getElem?_cons_zero]; exact rfl) rfl) rfl (fun w' hS hV K hK => ?_) ?_
          · have e7 : x 7 = (.slice (some ⟨g, o, none⟩) n d) := hV 7 (by decide)
            have e8 : x 8 = (.int .i64 (k)) := hV 8 (by decide)
            obtain ⟨q0, q1⟩ := hS.1.two; obtain ⟨q2, q3, q4, q5, q6, q7⟩ := HC.out _ hS.2
            go_simp
            exact hK.out _ _ _ rfl rfl rfl (Below.refl _ _)
          simp only [List.setIfInBounds_toArray, List.set_cons_zero, List.set_cons_succ]
          refine obs_step (Eq.trans (by simp only [List.getElem?_toArray, List.getElem?_cons_succ, List.getElem?_cons_zero]; exact rfl) rfl) rfl (fun w' hS hV K hK => ?_) ?_
          · have e7 : x 7 = (.slice (some ⟨g, o, none⟩) n d) := hV 7 (by decide)
            have e8 : x 8 = (.int .i64 (k)) := hV 8 (by decide)
            have e9 : x 9 = (.pointer (some ⟨g, o + k, none⟩)) := hV 9 (by decide)
            obtain ⟨q0, q1⟩ := hS.1.two; obtain ⟨q2, q3, q4, q5, q6, q7⟩ := HC.out _ hS.2
            go_simp
            exact hK.out _ _ _ rfl rfl rfl (Below.refl _ _)
          simp only [List.setIfInBounds_toArray, List.set_cons_zero, List.set_cons_succ]
          refine obs_step (Eq.trans (by simp only [List.getElem?_toArray, List.getElem?_cons_succ, List.getElem?_cons_zero]; exact rfl) rfl) rfl (fun w' hS hV K hK => ?_) ?_
          · obtain ⟨q0, q1⟩ := hS.1.two; obtain ⟨q2, q3, q4, q5, q6, q7⟩ := HC.out _ hS.2
            go_simp
            exact hK.out _ _ _ rfl rfl rfl (Below.refl _ _)
          simp only [List.setIfInBounds_toArray, List.set_cons_zero, List.set_cons_succ]
          refine obs_step (Eq.trans (by simp only [List.getElem?_toArray, List.getElem?_cons_succ, List.getElem?_cons_zero]; exact rfl) rfl) rfl (fun w' hS hV K hK => ?_) ?_
          · have e7 : x 7 = (.slice (some ⟨g, o, none⟩) n d) := hV 7 (by decide)
            have e8 : x 8 = (.int .i64 (k)) := hV 8 (by decide)
            have e9 : x 9 = (.pointer (some ⟨g, o + k, none⟩)) := hV 9 (by decide)
            have e10 : x 10 = (.slice (some ⟨gk, ok, none⟩) n ck) := hV 10 (by decide)
            have e11 : x 11 = (.int .i64 (i)) := hV 11 (by decide)
            obtain ⟨q0, q1⟩ := hS.1.two; obtain ⟨q2, q3, q4, q5, q6, q7⟩ := HC.out _ hS.2
            go_simp
            exact hK.out _ _ _ rfl rfl rfl (Below.refl _ _)
          simp only [List.setIfInBounds_toArray, List.set_cons_zero, List.set_cons_succ]
          refine obs_step (Eq.trans (by simp only [List.getElem?_toArray, List.getElem?_cons_succ, List.getElem?_cons_zero]; exact rfl) rfl) rfl (fun w' hS hV K hK => ?_) ?_
          · have e7 : x 7 = (.slice (some ⟨g, o, none⟩) n d) := hV 7 (by decide)
            have e8 : x 8 = (.int .i64 (k)) := hV 8 (by decide)
            have e9 : x 9 = (.pointer (some ⟨g, o + k, none⟩)) := hV 9 (by decide)
            have e10 : x 10 = (.slice (some ⟨gk, ok, none⟩) n ck) := hV 10 (by decide)
            have e11 : x 11 = (.int .i64 (i)) := hV 11 (by decide)
            have e12 : x 12 = (.pointer (some ⟨gk, ok + i, none⟩)) := hV 12 (by decide)
            obtain ⟨q0, q1⟩ := hS.1.two; obtain ⟨q2, q3, q4, q5, q6, q7⟩ := HC.out _ hS.2
            go_simp
            exact hK.out _ _ _ rfl rfl rfl (Below.refl _ _)
          simp only [List.setIfInBounds_toArray, List.set_cons_zero, List.set_cons_succ]
          refine obs_step (Eq.trans (by simp only [List.getElem?_toArray, List.getElem?_cons_succ, List.getElem?_cons_zero]; exact rfl) rfl) rfl (fun w' hS hV K hK => ?_) ?_
          · have e2 : x 2 = (.pointer (some ⟨w.heap.size, 1, none⟩)) := hV 2 (by decide)
            have e3 : x 3 = (.slice (some ⟨ga, oa, none⟩) n c) := hV 3 (by decide)
            have e4 : x 4 = (.int .i64 (k)) := hV 4 (by decide)
            have e5 : x 5 = (.pointer (some ⟨ga, oa + k, none⟩)) := hV 5 (by decide)
            have e6 : x 6 = (.int .i64 (sk)) := hV 6 (by decide)
            have e7 : x 7 = (.slice (some ⟨g, o, none⟩) n d) := hV 7 (by decide)
            have e8 : x 8 = (.int .i64 (k)) := hV 8 (by decide)
            have e9 : x 9 = (.pointer (some ⟨g, o + k, none⟩)) := hV 9 (by decide)
            have e10 : x 10 = (.slice (some ⟨gk, ok, none⟩) n ck) := hV 10 (by decide)
            have e11 : x 11 = (.int .i64 (i)) := hV 11 (by decide)
            have e12 : x 12 = (.pointer (some ⟨gk, ok + i, none⟩)) := hV 12 (by decide)
            have e13 : x 13 = (.int .i64 (mki)) := hV 13 (by decide)
            obtain ⟨q0, q1⟩ := hS.1.two; obtain ⟨q2, q3, q4, q5, q6, q7⟩ := HC.out _ hS.2
            go_simp
            exact hK.out _ _ _ rfl rfl rfl (Below.refl _ _)
          simp only [List.setIfInBounds_toArray, List.set_cons_zero, List.set_cons_succ]
          refine obs_step (Eq.trans (by simp only [List.getElem?_toArray, List.getElem?_cons_succ, List.getElem?_cons_zero]; exact rfl) rfl) rfl (fun w' hS hV K hK => ?_) ?_
          · obtain ⟨q0, q1⟩ := hS.1.two; obtain ⟨q2, q3, q4, q5, q6, q7⟩ := HC.out _ hS.2
            go_simp
            exact hK.out _ _ _ rfl rfl rfl (Below.refl _ _)
          simp only [List.setIfInBounds_toArray, List.set_cons_zero, List.set_cons_succ]
          refine obs_step (Eq.trans (by simp only [List.getElem?_toArray, List.getElem?_cons_succ, List.getElem?_cons_zero]; exact rfl) rfl) rfl (fun w' hS hV K hK => ?_) ?_
          · have e15 : x 15 = (.pointer (some ⟨w.heap.size, 1, none⟩)) := hV 15 (by decide)
            obtain ⟨q0, q1⟩ := hS.1.two; obtain ⟨q2, q3, q4, q5, q6, q7⟩ := HC.out _ hS.2
            go_simp
            exact hK.out _ _ _ rfl rfl rfl (Below.refl _ _)
          simp only [List.setIfInBounds_toArray, List.set_cons_zero, List.set_cons_succ]
          refine obs_step (Eq.trans (by simp only [List.getElem?_toArray, List.getElem?_cons_succ, List.getElem?_cons_zero]; exact rfl) rfl) rfl (fun w' hS hV K hK => ?_) ?_
          · obtain ⟨q0, q1⟩ := hS.1.two; obtain ⟨q2, q3, q4, q5, q6, q7⟩ := HC.out _ hS.2
            go_simp
            exact hK.out _ _ _ rfl rfl rfl (Below.refl _ _)
          simp only [List.setIfInBounds_toArray, List.set_cons_zero, List.set_cons_succ]
          refine obs_step (Eq.trans (by simp only [List.getElem?_toArray, List.getElem?_cons_succ, List.getElem?_cons_zero]; exact rfl) rfl) rfl (fun w' hS hV K hK => ?_) ?_
          · have e15 : x 15 = (.pointer (some ⟨w.heap.size, 1, none⟩)) := hV 15 (by decide)
            have e16 : x 16 = (.slice (some ⟨ga, oa, none⟩) n c) := hV 16 (by decide)
            have e17 : x 17 = (.int .i64 (i)) := hV 17 (by decide)
            obtain ⟨q0, q1⟩ := hS.1.two; obtain ⟨q2, q3, q4, q5, q6, q7⟩ := HC.out _ hS.2
            go_simp
            exact hK.out _ _ _ rfl rfl rfl (Below.refl _ _)
          simp only [List.setIfInBounds_toArray, List.set_cons_zero, List.set_cons_succ]
          refine obs_step (Eq.trans (by simp only [List.getElem?_toArray, List.getElem?_cons_succ, List.getElem?_cons_zero]; exact rfl) rfl) rfl (fun w' hS hV K hK => ?_) ?_
          · have e15 : x 15 = (.pointer (some ⟨w.heap.size, 1, none⟩)) := hV 15 (by decide)
            have e16 : x 16 = (.slice (some ⟨ga, oa, none⟩) n c) := hV 16 (by decide)
            have e17 : x 17 = (.int .i64 (i)) := hV 17 (by decide)
            have e18 : x 18 = (.pointer (some ⟨ga, oa + i, none⟩)) := hV 18 (by decide)
            obtain ⟨q0, q1⟩ := hS.1.two; obtain ⟨q2, q3, q4, q5, q6, q7⟩ := HC.out _ hS.2
            go_simp
            exact hK.out _ _ _ rfl rfl rfl (Below.refl _ _)
          simp only [List.setIfInBounds_toArray, List.set_cons_zero, List.set_cons_succ]
          refine obs_step (Eq.trans (by simp only [List.getElem?_toArray, List.getElem?_cons_succ, List.getElem?_cons_zero]; exact rfl) rfl) rfl (fun w' hS hV K hK => ?_) ?_
          · obtain ⟨q0, q1⟩ := hS.1.two; obtain ⟨q2, q3, q4, q5, q6, q7⟩ := HC.out _ hS.2
            go_simp
            exact hK.out _ _ _ rfl rfl rfl (Below.refl _ _)
          simp only [List.setIfInBounds_toArray, List.set_cons_zero, List.set_cons_succ]
          refine obs_step (Eq.trans (by simp only [List.getElem?_toArray, List.getElem?_cons_succ, List.getElem?_cons_zero]; exact rfl) rfl) rfl (fun w' hS hV K hK => ?_) ?_
          · obtain ⟨q0, q1⟩ := hS.1.two; obtain ⟨q2, q3, q4, q5, q6, q7⟩ := HC.out _ hS.2
            go_simp
            exact hK.out _ _ _ rfl rfl rfl (Below.refl _ _)
          simp only [List.setIfInBounds_toArray, List.set_cons_zero, List.set_cons_succ]
          refine obs_step (Eq.trans (by simp only [List.getElem?_toArray, List.getElem?_cons_succ, List.getElem?_cons_zero]; exact rfl) rfl) rfl (fun w' hS hV K hK => ?_) ?_
          · have e20 : x 20 = (.slice (some ⟨g, o, none⟩) n d) := hV 20 (by decide)
            have e21 : x 21 = (.int .i64 (i)) := hV 21 (by decide)
            obtain ⟨q0, q1⟩ := hS.1.two; obtain ⟨q2, q3, q4, q5, q6, q7⟩ := HC.out _ hS.2
            go_simp
            exact hK.out _ _ _ rfl rfl rfl (Below.refl _ _)
          simp only [List.setIfInBounds_toArray, List.set_cons_zero, List.set_cons_succ]
          refine obs_step (Eq.trans (by simp only [List.getElem?_toArray, List.getElem?_cons_succ, List.getElem?_cons_zero]; exact rfl) rfl) rfl (fun w' hS hV K hK => ?_) ?_
          · have e20 : x 20 = (.slice (some ⟨g, o, none⟩) n d) := hV 20 (by decide)
            have e21 : x 21 = (.int .i64 (i)) := hV 21 (by decide)
            have e22 : x 22 = (.pointer (some ⟨g, o + i, none⟩)) := hV 22 (by decide)
            obtain ⟨q0, q1⟩ := hS.1.two; obtain ⟨q2, q3, q4, q5, q6, q7⟩ := HC.out _ hS.2
            go_simp
            exact hK.out _ _ _ rfl rfl rfl (Below.refl _ _)
          simp only [List.setIfInBounds_toArray, List.set_cons_zero, List.set_cons_succ]
          refine obs_step (Eq.trans (by simp only [List.getElem?_toArray, List.getElem?_cons_succ, List.getElem?_cons_zero]; exact rfl) rfl) rfl (fun w' hS hV K hK => ?_) ?_
          · obtain ⟨q0, q1⟩ := hS.1.two; obtain ⟨q2, q3, q4, q5, q6, q7⟩ := HC.out _ hS.2
            go_simp
            exact hK.out _ _ _ rfl rfl rfl (Below.refl _ _)
          simp only [List.setIfInBounds_toArray, List.set_cons_zero, List.set_cons_succ]
          refine obs_step (Eq.trans (by simp only [List.getElem?_toArray, List.getElem?_cons_succ, List.getElem?_cons_zero]; exact rfl) rfl) rfl (fun w' hS hV K hK => ?_) ?_
          · have e20 : x 20 = (.slice (some ⟨g, o, none⟩) n d) := hV 20 (by decide)
            have e21 : x 21 = (.int .i64 (i)) := hV 21 (by decide)
            have e22 : x 22 = (.pointer (some ⟨g, o + i, none⟩)) := hV 22 (by decide)
            have e23 : x 23 = (.slice (some ⟨gi, oi, none⟩) n ci) := hV 23 (by decide)
            have e24 : x 24 = (.int .i64 (k)) := hV 24 (by decide)
            obtain ⟨q0, q1⟩ := hS.1.two; obtain ⟨q2, q3, q4, q5, q6, q7⟩ := HC.out _ hS.2
            go_simp
            exact hK.out _ _ _ rfl rfl rfl (Below.refl _ _)
          simp only [List.setIfInBounds_toArray, List.set_cons_zero, List.set_cons_succ]
          refine obs_step (Eq.trans (by simp only [List.getElem?_toArray, List.getElem?_cons_succ, List.getElem?_cons_zero]; exact rfl) rfl) rfl (fun w' hS hV K hK => ?_) ?_
          · have e20 : x 20 = (.slice (some ⟨g, o, none⟩) n d) := hV 20 (by decide)
            have e21 : x 21 = (.int .i64 (i)) := hV 21 (by decide)
            have e22 : x 22 = (.pointer (some ⟨g, o + i, none⟩)) := hV 22 (by decide)
            have e23 : x 23 = (.slice (some ⟨gi, oi, none⟩) n ci) := hV 23 (by decide)
            have e24 : x 24 = (.int .i64 (k)) := hV 24 (by decide)
            have e25 : x 25 = (.pointer (some ⟨gi, oi + k, none⟩)) := hV 25 (by decide)
            obtain ⟨q0, q1⟩ := hS.1.two; obtain ⟨q2, q3, q4, q5, q6, q7⟩ := HC.out _ hS.2
            go_simp
            exact hK.out _ _ _ rfl rfl rfl (Below.refl _ _)
          simp only [List.setIfInBounds_toArray, List.set_cons_zero, List.set_cons_succ]
          refine obs_step (Eq.trans (by simp only [List.getElem?_toArray, List.getElem?_cons_succ, List.getElem?_cons_zero]; exact rfl) rfl) rfl (fun w' hS hV K hK => ?_) ?_
          · have e15 : x 15 = (.pointer (some ⟨w.heap.size, 1, none⟩)) := hV 15 (by decide)
            have e16 : x 16 = (.slice (some ⟨ga, oa, none⟩) n c) := hV 16 (by decide)
            have e17 : x 17 = (.int .i64 (i)) := hV 17 (by decide)
            have e18 : x 18 = (.pointer (some ⟨ga, oa + i, none⟩)) := hV 18 (by decide)
            have e19 : x 19 = (.int .i64 (si)) := hV 19 (by decide)
            have e20 : x 20 = (.slice (some ⟨g, o, none⟩) n d) := hV 20 (by decide)
            have e21 : x 21 = (.int .i64 (i)) := hV 21 (by decide)
            have e22 : x 22 = (.pointer (some ⟨g, o + i, none⟩)) := hV 22 (by decide)
            have e23 : x 23 = (.slice (some ⟨gi, oi, none⟩) n ci) := hV 23 (by decide)
            have e24 : x 24 = (.int .i64 (k)) := hV 24 (by decide)
            have e25 : x 25 = (.pointer (some ⟨gi, oi + k, none⟩)) := hV 25 (by decide)
            have e26 : x 26 = (.int .i64 (mik)) := hV 26 (by decide)
            obtain ⟨q0, q1⟩ := hS.1.two; obtain ⟨q2, q3, q4, q5, q6, q7⟩ := HC.out _ hS.2
            go_simp
            exact hK.out _ _ _ rfl rfl rfl (Below.refl _ _)
          simp only [List.setIfInBounds_toArray, List.set_cons_zero, List.set_cons_succ]
          refine obs_step (Eq.trans (by simp only [List.getElem?_toArray, List.getElem?_cons_succ, List.getElem?_cons_zero]; exact rfl) rfl) rfl (fun w' hS hV K hK => ?_) ?_
          · have e2 : x 2 = (.pointer (some ⟨w.heap.size, 1, none⟩)) := hV 2 (by decide)
            have e3 : x 3 = (.slice (some ⟨ga, oa, none⟩) n c) := hV 3 (by decide)
            have e4 : x 4 = (.int .i64 (k)) := hV 4 (by decide)
            have e5 : x 5 = (.pointer (some ⟨ga, oa + k, none⟩)) := hV 5 (by decide)
            have e6 : x 6 = (.int .i64 (sk)) := hV 6 (by decide)
            have e7 : x 7 = (.slice (some ⟨g, o, none⟩) n d) := hV 7 (by decide)
            have e8 : x 8 = (.int .i64 (k)) := hV 8 (by decide)
            have e9 : x 9 = (.pointer (some ⟨g, o + k, none⟩)) := hV 9 (by decide)
            have e10 : x 10 = (.slice (some ⟨gk, ok, none⟩) n ck) := hV 10 (by decide)
            have e11 : x 11 = (.int .i64 (i)) := hV 11 (by decide)
            have e12 : x 12 = (.pointer (some ⟨gk, ok + i, none⟩)) := hV 12 (by decide)
            have e13 : x 13 = (.int .i64 (mki)) := hV 13 (by decide)
            have e14 : x 14 = (.int .i64 (sk * mki)) := hV 14 (by decide)
            have e15 : x 15 = (.pointer (some ⟨w.heap.size, 1, none⟩)) := hV 15 (by decide)
            have e16 : x 16 = (.slice (some ⟨ga, oa, none⟩) n c) := hV 16 (by decide)
            have e17 : x 17 = (.int .i64 (i)) := hV 17 (by decide)
            have e18 : x 18 = (.pointer (some ⟨ga, oa + i, none⟩)) := hV 18 (by decide)
            have e19 : x 19 = (.int .i64 (si)) := hV 19 (by decide)
            have e20 : x 20 = (.slice (some ⟨g, o, none⟩) n d) := hV 20 (by decide)
            have e21 : x 21 = (.int .i64 (i)) := hV 21 (by decide)
            have e22 : x 22 = (.pointer (some ⟨g, o + i, none⟩)) := hV 22 (by decide)
            have e23 : x 23 = (.slice (some ⟨gi, oi, none⟩) n ci) := hV 23 (by decide)
            have e24 : x 24 = (.int .i64 (k)) := hV 24 (by decide)
            have e25 : x 25 = (.pointer (some ⟨gi, oi + k, none⟩)) := hV 25 (by decide)
            have e26 : x 26 = (.int .i64 (mik)) := hV 26 (by decide)
            have e27 : x 27 = (.int .i64 (si * mik)) := hV 27 (by decide)
            obtain ⟨q0, q1⟩ := hS.1.two; obtain ⟨q2, q3, q4, q5, q6, q7⟩ := HC.out _ hS.2
            go_simp
            exact hK.out _ _ _ rfl rfl rfl (Below.refl _ _)
          simp only [List.setIfInBounds_toArray, List.set_cons_zero, List.set_cons_succ]
          refine obs_step (Eq.trans (by simp only [List.getElem?_toArray, List.getElem?_cons_succ, List.getElem?_cons_zero]; exact rfl) rfl) rfl (fun w' hS hV K hK => ?_) ?_
          · have e0 : x 0 = (.agg #[.int .i64 P, .slice (some ⟨ga, oa, none⟩) n c]) := hV 0 (by decide)
            have e1 : x 1 = (.int .i64 (P)) := hV 1 (by decide)
            have e2 : x 2 = (.pointer (some ⟨w.heap.size, 1, none⟩)) := hV 2 (by decide)
            have e3 : x 3 = (.slice (some ⟨ga, oa, none⟩) n c) := hV 3 (by decide)
            have e4 : x 4 = (.int .i64 (k)) := hV 4 (by decide)
            have e5 : x 5 = (.pointer (some ⟨ga, oa + k, none⟩)) := hV 5 (by decide)
            have e6 : x 6 = (.int .i64 (sk)) := hV 6 (by decide)
            have e7 : x 7 = (.slice (some ⟨g, o, none⟩) n d) := hV 7 (by decide)
            have e8 : x 8 = (.int .i64 (k)) := hV 8 (by decide)
            have e9 : x 9 = (.pointer (some ⟨g, o + k, none⟩)) := hV 9 (by decide)
            have e10 : x 10 = (.slice (some ⟨gk, ok, none⟩) n ck) := hV 10 (by decide)
            have e11 : x 11 = (.int .i64 (i)) := hV 11 (by decide)
            have e12 : x 12 = (.pointer (some ⟨gk, ok + i, none⟩)) := hV 12 (by decide)
            have e13 : x 13 = (.int .i64 (mki)) := hV 13 (by decide)
            have e14 : x 14 = (.int .i64 (sk * mki)) := hV 14 (by decide)
            have e15 : x 15 = (.pointer (some ⟨w.heap.size, 1, none⟩)) := hV 15 (by decide)
            have e16 : x 16 = (.slice (some ⟨ga, oa, none⟩) n c) := hV 16 (by decide)
            have e17 : x 17 = (.int .i64 (i)) := hV 17 (by decide)
            have e18 : x 18 = (.pointer (some ⟨ga, oa + i, none⟩)) := hV 18 (by decide)
            have e19 : x 19 = (.int .i64 (si)) := hV 19 (by decide)
            have e20 : x 20 = (.slice (some ⟨g, o, none⟩) n d) := hV 20 (by decide)
            have e21 : x 21 = (.int .i64 (i)) := hV 21 (by decide)
            have e22 : x 22 = (.pointer (some ⟨g, o + i, none⟩)) := hV 22 (by decide)
            have e23 : x 23 = (.slice (some ⟨gi, oi, none⟩) n ci) := hV 23 (by decide)
            have e24 : x 24 = (.int .i64 (k)) := hV 24 (by decide)
            have e25 : x 25 = (.pointer (some ⟨gi, oi + k, none⟩)) := hV 25 (by decide)
            have e26 : x 26 = (.int .i64 (mik)) := hV 26 (by decide)
            have e27 : x 27 = (.int .i64 (si * mik)) := hV 27 (by decide)
            have e28 : x 28 = (.int .i64 (sk * mki + si * mik)) := hV 28 (by decide)
            obtain ⟨q0, q1⟩ := hS.1.two; obtain ⟨q2, q3, q4, q5, q6, q7⟩ := HC.out _ hS.2
            go_simp
            refine (hnum9 _).mono ?_
            rintro e v1 ⟨rfl, rfl⟩
            exact hK.out _ _ _ rfl rfl rfl (Below.refl _ _)
          simp only [List.setIfInBounds_toArray, List.set_cons_zero, List.set_cons_succ]
          refine obs_step (Eq.trans (by simp only [List.getElem?_toArray, List.getElem?_cons_succ, List.getElem?_cons_zero]; exact rfl) rfl) rfl (fun w' hS hV K hK => ?_) ?_
          · have e0 : x 0 = (.agg #[.int .i64 P, .slice (some ⟨ga, oa, none⟩) n c]) := hV 0 (by decide)
            have e1 : x 1 = (.int .i64 (P)) := hV 1 (by decide)
            have e2 : x 2 = (.pointer (some ⟨w.heap.size, 1, none⟩)) := hV 2 (by decide)
            have e3 : x 3 = (.slice (some ⟨ga, oa, none⟩) n c) := hV 3 (by decide)
            have e4 : x 4 = (.int .i64 (k)) := hV 4 (by decide)
            have e5 : x 5 = (.pointer (some ⟨ga, oa + k, none⟩)) := hV 5 (by decide)
            have e6 : x 6 = (.int .i64 (sk)) := hV 6 (by decide)
            have e7 : x 7 = (.slice (some ⟨g, o, none⟩) n d) := hV 7 (by decide)
            have e8 : x 8 = (.int .i64 (k)) := hV 8 (by decide)
            have e9 : x 9 = (.pointer (some ⟨g, o + k, none⟩)) := hV 9 (by decide)
            have e10 : x 10 = (.slice (some ⟨gk, ok, none⟩) n ck) := hV 10 (by decide)
            have e11 : x 11 = (.int .i64 (i)) := hV 11 (by decide)
            have e12 : x 12 = (.pointer (some ⟨gk, ok + i, none⟩)) := hV 12 (by decide)
            have e13 : x 13 = (.int .i64 (mki)) := hV 13 (by decide)
            have e14 : x 14 = (.int .i64 (sk * mki)) := hV 14 (by decide)
            have e15 : x 15 = (.pointer (some ⟨w.heap.size, 1, none⟩)) := hV 15 (by decide)
            have e16 : x 16 = (.slice (some ⟨ga, oa, none⟩) n c) := hV 16 (by decide)
            have e17 : x 17 = (.int .i64 (i)) := hV 17 (by decide)
            have e18 : x 18 = (.pointer (some ⟨ga, oa + i, none⟩)) := hV 18 (by decide)
            have e19 : x 19 = (.int .i64 (si)) := hV 19 (by decide)
            have e20 : x 20 = (.slice (some ⟨g, o, none⟩) n d) := hV 20 (by decide)
            have e21 : x 21 = (.int .i64 (i)) := hV 21 (by decide)
            have e22 : x 22 = (.pointer (some ⟨g, o + i, none⟩)) := hV 22 (by decide)
            have e23 : x 23 = (.slice (some ⟨gi, oi, none⟩) n ci) := hV 23 (by decide)
            have e24 : x 24 = (.int .i64 (k)) := hV 24 (by decide)
            have e25 : x 25 = (.pointer (some ⟨gi, oi + k, none⟩)) := hV 25 (by decide)
            have e26 : x 26 = (.int .i64 (mik)) := hV 26 (by decide)
            have e27 : x 27 = (.int .i64 (si * mik)) := hV 27 (by decide)
            have e28 : x 28 = (.int .i64 (sk * mki + si * mik)) := hV 28 (by decide)
            have e29 : x 29 = (.int .i64 (0)) := hV 29 (by decide)
            obtain ⟨q0, q1⟩ := hS.1.two; obtain ⟨q2, q3, q4, q5, q6, q7⟩ := HC.out _ hS.2
            go_simp
            exact hK.out _ _ _ rfl rfl rfl (Below.refl _ _)
          simp only [List.setIfInBounds_toArray, List.set_cons_zero, List.set_cons_succ]
          refine fun w' hS hV => ?_
          have e0 : x 0 = (.agg #[.int .i64 P, .slice (some ⟨ga, oa, none⟩) n c]) := hV 0 (by decide)
          have e1 : x 1 = (.int .i64 (P)) := hV 1 (by decide)
          have e2 : x 2 = (.pointer (some ⟨w.heap.size, 1, none⟩)) := hV 2 (by decide)
          have e3 : x 3 = (.slice (some ⟨ga, oa, none⟩) n c) := hV 3 (by decide)
          have e4 : x 4 = (.int .i64 (k)) := hV 4 (by decide)
          have e5 : x 5 = (.pointer (some ⟨ga, oa + k, none⟩)) := hV 5 (by decide)
          have e6 : x 6 = (.int .i64 (sk)) := hV 6 (by decide)
          have e7 : x 7 = (.slice (some ⟨g, o, none⟩) n d) := hV 7 (by decide)
          have e8 : x 8 = (.int .i64 (k)) := hV 8 (by decide)
          have e9 : x 9 = (.pointer (some ⟨g, o + k, none⟩)) := hV 9 (by decide)
          have e10 : x 10 = (.slice (some ⟨gk, ok, none⟩) n ck) := hV 10 (by decide)
          have e11 : x 11 = (.int .i64 (i)) := hV 11 (by decide)
          have e12 : x 12 = (.pointer (some ⟨gk, ok + i, none⟩)) := hV 12 (by decide)
          have e13 : x 13 = (.int .i64 (mki)) := hV 13 (by decide)
          have e14 : x 14 = (.int .i64 (sk * mki)) := hV 14 (by decide)
          have e15 : x 15 = (.pointer (some ⟨w.heap.size, 1, none⟩)) := hV 15 (by decide)
          have e16 : x 16 = (.slice (some ⟨ga, oa, none⟩) n c) := hV 16 (by decide)
          have e17 : x 17 = (.int .i64 (i)) := hV 17 (by decide)
          have e18 : x 18 = (.pointer (some ⟨ga, oa + i, none⟩)) := hV 18 (by decide)
          have e19 : x 19 = (.int .i64 (si)) := hV 19 (by decide)
          have e20 : x 20 = (.slice (some ⟨g, o, none⟩) n d) := hV 20 (by decide)
          have e21 : x 21 = (.int .i64 (i)) := hV 21 (by decide)
          have e22 : x 22 = (.pointer (some ⟨g, o + i, none⟩)) := hV 22 (by decide)
          have e23 : x 23 = (.slice (some ⟨gi, oi, none⟩) n ci) := hV 23 (by decide)
          have e24 : x 24 = (.int .i64 (k)) := hV 24 (by decide)
          have e25 : x 25 = (.pointer (some ⟨gi, oi + k, none⟩)) := hV 25 (by decide)
          have e26 : x 26 = (.int .i64 (mik)) := hV 26 (by decide)
          have e27 : x 27 = (.int .i64 (si * mik)) := hV 27 (by decide)
          have e28 : x 28 = (.int .i64 (sk * mki + si * mik)) := hV 28 (by decide)
          have e29 : x 29 = (.int .i64 (0)) := hV 29 (by decide)
          have e30 : x 30 = (.bool false) := hV 30 (by decide)
          simp only [e0, e1, e2, e3, e4, e5, e6, e7, e8, e9, e10, e11, e12, e13, e14, e15, e16, e17, e18, e19, e20, e21, e22, e23, e24, e25, e26, e27, e28, e29, e30]
          clear e0 e1 e2 e3 e4 e5 e6 e7 e8 e9 e10 e11 e12 e13 e14 e15 e16 e17 e18 e19 e20 e21 e22 e23 e24 e25 e26 e27 e28 e29 e30
          refine wpAny_done (by kernel_rfl) ?_ _
          have k8 := hS.1
          have hB8 := hB.trans (hS.2.mono hB.size)
          clear hS q0 q1 kk hB
          go_wp2
          go_roundw
          case rel => exact ⟨k + 1, by omega, by go_num, k8, hB8⟩
          case measure => simp [intOf]; omega
        · go_wp2
          go_roundw
          case rel => exact ⟨i + 1, by omega, by go_num, kk, hB⟩
          case measure => simp [intOf]; omega
    · go_wp2
      go_ret
      exact ⟨rfl, hB1⟩
set_option maxHeartbeats 1600000 in
theorem IsSkewMatrix_ok (P : Int) (A : Option Addr) (n c : Nat) (sq : List Int) (D : Option Addr) (d : Nat) (M : List (List Int)) (w : World) (hsp : isSp P sq = true) (hreg : regB sq = true) (ha : Rd w A n (ints sq)) (hd : RdII w D n M) (hM : Tab P n M) (hsk : ∀ i k, i < n → k < n → (sq.getD k 0 * ent M k i + sq.getD i 0 * ent M i k) % P = 0) :
    Calls Tryz.prog 61 #[.agg #[.int .i64 P, .slice A n c], .slice D n d] w fun e w' => e = .returned (.tuple #[.bool true, .int .i64 0]) ∧ Below w.heap.size w w' := by
  have hB0 : Below w.heap.size w (w.alloc (.cells #[.int .i64 P, .slice A n c] 26)) := (Below.refl _ _).alloc (Nat.le_refl _) _
  have k0 : Blk (w.alloc (.cells #[.int .i64 P, .slice A n c] 26)) w.heap.size 26 #[.int .i64 P, .slice A n c] := Blk.new _ _ _
  have hsl := ha.lenI
  obtain ⟨HP, hd1, hd2, hnum⟩ := isSp_dim hsp
  obtain ⟨hp3, hp2⟩ := isP_ge HP
  rw [hsl] at hd1 hd2
  have hcf := checkFrame_ok P A n c sq D d M (w.alloc (.cells #[.int .i64 P, .slice A n c] 26)) hsp hreg (ha.below hB0) (hd.below hB0) hM
  have hik := Lib.hid fun w' (h : Below w.heap.size w w') => isSkew_ok P A n c sq D d M w' (by omega) hp2 (by omega) (ha.below h) (nums_numsL hnum) (hd.below h) hM hsk
  clear hsp hreg hM hsk hnum hsl HP
  obtain ⟨q0, q1⟩ := k0.two
  go_enter Tryz.func61, Tryz.ntmps61
  go_wp2_with fail
  refine hcf.mono ?_
  rintro e w2 ⟨rfl, hb2⟩
  have hB2 := hB0.trans (hb2.mono hB0.size)
  have k2 := k0.below hb2 k0.lt
  have hcall := hik.out w2 hB2
  clear q0 q1 hcf
  obtain ⟨q0, q1⟩ := k2.two
  go_wp2_with fail
  refine hcall.mono ?_
  rintro e w3 ⟨rfl, hb3⟩
  go_wp2
  go_ret2
  exact ⟨rfl, hB2.trans (hb3.mono hB2.size)⟩
end Go.Proofs.YtggigolkncckoaaGreat
namespace Go.Proofs.YtggigolkncckoaaGreat
open Go.RowKit
theorem or_all : ((List.range 6).all fun i => (List.range 6).all fun j => !(decide (i < j)) || (bits BinOp.or IntKind.i64 ((2 ^ i : Nat) : Int) ((2 ^ j : Nat) : Int) == ((2 ^ i ^^^ 2 ^ j : Nat) : Int))) = true := by decide +kernel
theorem or_xor (i : Nat) (hi : i < 6) (j : Nat) (hj : j < 6) (h : i < j) : bits BinOp.or IntKind.i64 ((2 ^ i : Nat) : Int) ((2 ^ j : Nat) : Int) = ((2 ^ i ^^^ 2 ^ j : Nat) : Int) := by
  have h0 := or_all
  simp only [List.all_eq_true, List.mem_range] at h0
  have h1 := h0 i hi j hj
  rw [decide_eq_true h, Bool.not_true, Bool.false_or, beq_iff_eq] at h1
  exact h1
theorem two_fit {i : Nat} (hi : i < 6) : IntKind.i64.wrap (2 ^ i) = ((2 ^ i : Nat) : Int) := by
  have h : i = 0 ∨ i = 1 ∨ i = 2 ∨ i = 3 ∨ i = 4 ∨ i = 5 := by omega
  rcases h with rfl | rfl | rfl | rfl | rfl | rfl <;> rfl
/-- What a bivector's matrix has given up to row i and column k. -/
def Part (n : Nat) (xs us : List Int) (i k : Nat) : Prop := us.length = pw n ∧ (∀ m, us.getD m 0 = xs.getD m 0 ∨ us.getD m 0 = 0) ∧ ∀ a b, a < b → b < n → (a < i ∨ (a = i ∧ b < k)) → us.getD (2 ^ a ^^^ 2 ^ b) 0 = xs.getD (2 ^ a ^^^ 2 ^ b) 0
theorem Part.start (n : Nat) (xs : List Int) (k : Nat) (hk : k ≤ 1) : Part n xs (List.replicate (pw n) 0) 0 k := ⟨by simp, fun m => .inr (by simp [List.getD_eq_getElem?_getD, List.getElem?_replicate]; split <;> rfl), fun a b hab hb h => by omega⟩
theorem Part.set {n : Nat} {xs us : List Int} {i k : Nat} (h : Part n xs us i k) (h6 : n ≤ 6) (hik : i < k) (hk : k < n) : Part n xs (us.set (2 ^ i ^^^ 2 ^ k) (xs.getD (2 ^ i ^^^ 2 ^ k) 0)) i (k + 1) := by
  obtain ⟨h1, h2, h3⟩ := h
  have hm : 2 ^ i ^^^ 2 ^ k < us.length := by rw [h1]; exact xor_lt (two_lt (by omega)) (two_lt hk)
  have hg : ∀ m, (us.set (2 ^ i ^^^ 2 ^ k) (xs.getD (2 ^ i ^^^ 2 ^ k) 0)).getD m 0 = if m = 2 ^ i ^^^ 2 ^ k then xs.getD m 0 else us.getD m 0 := fun m => by
    rw [List.getD_eq_getElem?_getD, List.getElem?_set]
    by_cases e : 2 ^ i ^^^ 2 ^ k = m
    · rw [if_pos e, if_pos hm, if_pos e.symm, e]; rfl
    · rw [if_neg e, if_neg fun e' => e e'.symm, List.getD_eq_getElem?_getD]
  refine ⟨by rw [List.length_set]; exact h1, fun m => ?_, fun a b hab hb hd => ?_⟩
  · rw [hg]; split
    · exact .inl rfl
    · exact h2 m
  · rw [hg]; split
    · rfl
    · rename_i hne
      refine h3 a b hab hb ?_
      rcases hd with hd | ⟨rfl, hd⟩
      · exact .inl hd
      · refine .inr ⟨rfl, ?_⟩
        have : b ≠ k := fun e => hne (by rw [e])
        omega
theorem Part.next {n : Nat} {xs us : List Int} {i k : Nat} (h : Part n xs us i k) (hk : n ≤ k) (j : Nat) (hj : j ≤ i + 2) : Part n xs us (i + 1) j := ⟨h.1, h.2.1, fun a b hab hb hd => h.2.2 a b hab hb (by omega)⟩
theorem Part.done {n : Nat} {xs us : List Int} {k : Nat} (h : Part n xs us n k) (h6 : n ≤ 6) (hl : xs.length = pw n) (h2 : onlyL xs 2 = true) : us = xs := by
  have hpw := pw_le (k := 6) h6
  refine list_ext_getD 0 (by rw [h.1, hl]) fun m hm => ?_
  rw [h.1] at hm
  by_cases hp : pc m = 2
  · obtain ⟨a, b, hab, hb, rfl⟩ := pc2_dim h6 hm hp
    exact h.2.2 a b hab hb (.inl (by omega))
  · have h0 := (only_iff (by rw [hl]; exact hpw) 2).1 h2 m (by rw [hl]; exact hm) hp
    rcases h.2.1 m with e | e
    · exact e
    · rw [e, h0]
set_option maxHeartbeats 3200000 in
set_option maxRecDepth 8000 in
theorem BivectorOfMatrix_ok (P : Int) (A : Option Addr) (n c : Nat) (sq : List Int) (D : Option Addr) (d : Nat) (xs : List Int) (w : World) (hsp : isSp P sq = true) (hreg : regB sq = true) (ha : Rd w A n (ints sq)) (hd : RdII w D n (matL P sq n xs)) (hxl : xs.length = pw n) (hxs : NumsL P xs) (hx2 : onlyL xs 2 = true) :
    Calls Tryz.prog 60 #[.agg #[.int .i64 P, .slice A n c], .slice D n d] w fun e w' => ∃ (A' : Option Addr) (c' : Nat), e = .returned (.tuple #[.slice A' (pw n) c', .int .i64 0]) ∧ MkI w w' A' (pw n) c' xs := by
  have hB0 : Below w.heap.size w (w.alloc (.cells #[.int .i64 P, .slice A n c] 26)) := (Below.refl _ _).alloc (Nat.le_refl _) _
  have k0 : Blk (w.alloc (.cells #[.int .i64 P, .slice A n c] 26)) w.heap.size 26 #[.int .i64 P, .slice A n c] := Blk.new _ _ _
  have hsl := ha.lenI
  obtain ⟨HP, hd1, hd2, hnum⟩ := isSp_dim hsp
  obtain ⟨hp3, hp2⟩ := isP_ge HP
  have hS0 := nums_numsL hnum
  have hMT : Tab P n (matL P sq n xs) := matL_tab (by omega) sq n xs
  have hcf := checkFrame_ok P A n c sq D d (matL P sq n xs) (w.alloc (.cells #[.int .i64 P, .slice A n c] 26)) hsp hreg (ha.below hB0) (hd.below hB0) hMT
  have hsk : ∀ i k, i < n → k < n → (sq.getD k 0 * ent (matL P sq n xs) k i + sq.getD i 0 * ent (matL P sq n xs) i k) % P = 0 := fun i k hi hk => by
    have h := biv_skew HP hd2 (hxl.trans (by rw [hsl])) hxs hx2 (i := i) (k := k) (by omega) (by omega)
    rwa [hsl] at h
  have hbk : ∀ i k, i < k → k < n → (ent (matL P sq n xs) i k * invF P (sq.getD k 0)) % P = xs.getD (2 ^ i ^^^ 2 ^ k) 0 := fun i k hik hk => by
    have h := biv_back HP hd2 (hxl.trans (by rw [hsl])) hxs hx2 (i := i) (k := k) hik (by omega) (hS0.getD (by omega) k) (fun h0 => by
      have h1 : sq.getD k 0 ∈ sq := getD_mem 0 (by omega)
      rw [h0] at h1
      unfold regB at hreg
      rw [Bool.not_eq_true'] at hreg
      have h2 : sq.contains 0 = true := List.contains_iff_mem.2 h1
      rw [hreg] at h2; exact absurd h2 (by decide))
    rwa [hsl] at h
  have hik := Lib.hid fun w' (h : Below w.heap.size w w') => isSkew_ok P A n c sq D d (matL P sq n xs) w' (by omega) hp2 (by omega) (ha.below h) hS0 (hd.below h) hMT hsk
  rw [hsl] at hd1 hd2
  have HBK := Lib.hid hbk
  have HMT := Lib.hid hMT
  have HXL := Lib.hid (And.intro hxl (And.intro hxs hx2))
  have HS0 := Lib.hid hS0
  obtain ⟨M, hMM⟩ : ∃ M, M = matL P sq n xs := ⟨_, rfl⟩
  rw [← hMM] at HBK HMT hd
  obtain ⟨q0, q1⟩ := k0.two
  clear hsp hreg hsk hbk hMT hnum hsl HP hxl hxs hx2 hS0 hMM
  go_enter Tryz.func60, Tryz.ntmps60
  go_wp2_with fail
  refine hcf.mono ?_
  rintro e w2 ⟨rfl, hb2⟩
  have hB2 := hB0.trans (hb2.mono hB0.size)
  have k2 := k0.below hb2 k0.lt
  have hcall := hik.out w2 hB2
  clear q0 q1 hcf hik
  obtain ⟨q0, q1⟩ := k2.two
  go_wp2_with fail
  refine hcall.mono ?_
  rintro e w3 ⟨rfl, hb3⟩
  have hB3 := hB2.trans (hb3.mono hB2.size)
  have k3 := k2.below hb3 k2.lt
  clear q0 q1 hcall
  obtain ⟨q0, q1⟩ := k3.two
  go_wp2_with fail
  refine (nothing_any P A n c w3 (by omega)).mono ?_
  rintro e w4 ⟨G, cO, rfl, hM1⟩
  have hM := hM1.after hB3
  have k4 := k3.below hM1.b k3.lt
  have hpos := pw_pos n
  rcases hM1.2.form with ⟨_, h0⟩ | ⟨go, rfl, hg, _⟩
  · omega
  have hne : w.heap.size ≠ go := by have := k3.lt; omega
  clear q0 q1 hM1 hg hpos hB3 hB2 hb3 hb2 k2 k3 k0 hB0
  go_wp2
  go_loopw [24] (fun i wr => ∃ (j : Nat) (us : List Int), j ≤ n ∧ i = .int .i64 j ∧ Part n xs us j (j + 1) ∧ Blk wr w.heap.size 26 #[.int .i64 P, .slice A n c] ∧ MkI w wr (some ⟨go, 0, none⟩) (pw n) cO us) (fun i _ => n - (intOf i).toNat)
  case atStart => exact ⟨0, _, by omega, rfl, Part.start n xs 1 (by omega), k4, hM⟩
  case round =>
    obtain ⟨i, us0, hi, rfl, hpt, k5, hM5⟩ := hrel
    have HPT0 := Lib.hid hpt
    clear k4 hM hpt
    by_cases hlt : i < n
    · have W0 : wrap64 ((i : Int) + 1) = ((i + 1 : Nat) : Int) := by unfold wrap64; omega
      go_wp2
      go_loopw [9] (fun k wr => ∃ (j : Nat) (us : List Int), i < j ∧ j ≤ n ∧ k = .int .i64 j ∧ Part n xs us i j ∧ Blk wr w.heap.size 26 #[.int .i64 P, .slice A n c] ∧ MkI w wr (some ⟨go, 0, none⟩) (pw n) cO us) (fun i _ => n - (intOf i).toNat)
      case atStart => exact ⟨i + 1, us0, by omega, by omega, by go_num, HPT0.out, k5, hM5⟩
      case round =>
        obtain ⟨k, us, hik, hk, rfl, hpt, kk, hM⟩ := hrel
        have HPT := Lib.hid hpt
        clear hpt k5 hM5 HPT0
        by_cases hkt : k < n
        · have hcl : ∃ (ga oa g o gi oi ci : Nat) (sk mik : Int), A = some ⟨ga, oa, none⟩ ∧ D = some ⟨g, o, none⟩ ∧ sk = sq.getD k 0 ∧ mik = ent M i k ∧
              Hid (∀ w', Below wr.heap.size wr w' → w'.cell? ⟨ga, oa + k, none⟩ = some (.int .i64 sk) ∧ w'.cell? ⟨g, o + i, none⟩ = some (.slice (some ⟨gi, oi, none⟩) n ci) ∧ w'.cell? ⟨gi, oi + k, none⟩ = some (.int .i64 mik)) := by
            obtain ⟨ga, oa, rfl, hxk, hck⟩ := (ha.below hM.b).int hkt
            obtain ⟨g, o, rfl, hyi, Ai, ci, hdi, hri, -⟩ := (hd.below hM.b).at_ hlt
            have li := (HMT.out M[i] (List.getElem_mem hyi)).1
            rw [li] at hdi hri
            obtain ⟨gi, oi, rfl, hzi, hei⟩ := hri.int hkt
            refine ⟨ga, oa, g, o, gi, oi, ci, sq[k], M[i][k], rfl, rfl, (getD_of_lt 0 hxk).symm, (ent_at hyi hzi).symm, Lib.hid fun w' h => ⟨?_, ?_, ?_⟩⟩
            · exact (h.cell (World.block_lt_of_cell? _ _ hck)).trans hck
            · exact (h.cell (World.block_lt_of_cell? _ _ hdi)).trans hdi
            · exact (h.cell (World.block_lt_of_cell? _ _ hei)).trans hei
          obtain ⟨ga, oa, g, o, gi, oi, ci, sk, mik, rfl, rfl, e1, e2, HC⟩ := hcl
          have b1 : 0 ≤ sk ∧ sk < P := by rw [e1]; exact HS0.out.getD (by omega) k
          have b4 : 0 ≤ mik ∧ mik < P := by rw [e2]; exact HMT.out.ent (by omega) i k
          have h0 := HBK.out i k hik hkt
          rw [← e1, ← e2] at h0
          have hinv := fun w' => inv_any P sk w' (by omega) hp2 b1.1 b1.2
          have b5 := invF_small (p := P) (by omega) sk
          obtain ⟨iv, hiv⟩ : ∃ a, a = invF P sk := ⟨_, rfl⟩
          rw [← hiv] at hinv h0 b5
          have m1 := mul_two_small hp2 b4 b5
          have W1 := i64_fit (mik * iv) (by omega) (by omega)
          have hnum9 := fun w' => num_any P (mik * iv) w' (by omega) hp2 (by omega) (by omega)
          rw [h0] at hnum9
          obtain ⟨xv, hxv⟩ : ∃ a, a = xs.getD (2 ^ i ^^^ 2 ^ k) 0 := ⟨_, rfl⟩
          rw [← hxv] at hnum9
          have hwi := two_fit (show i < 6 by omega)
          have hwk := two_fit (show k < 6 by omega)
          have hor := or_xor i (by omega) k (by omega) hik
          have hlm : 2 ^ i ^^^ 2 ^ k < pw n := xor_lt (two_lt (by omega)) (two_lt hkt)
          have hset := (hM.set (2 ^ i ^^^ 2 ^ k) (.int .i64 xv)).1
          rw [ints_set] at hset
          have hpn := HPT.out.set (by omega) hik hkt
          rw [← hxv] at hpn
          obtain ⟨qi, hqi⟩ : ∃ q : Nat, q = 2 ^ i := ⟨_, rfl⟩
          obtain ⟨qk, hqk⟩ : ∃ q : Nat, q = 2 ^ k := ⟨_, rfl⟩
          rw [← hqi, ← hqk] at hor hlm hset hpn
          rw [← hqi] at hwi
          rw [← hqk] at hwk
          obtain ⟨qm, hqm⟩ : ∃ q : Nat, q = qi ^^^ qk := ⟨_, rfl⟩
          rw [← hqm] at hor hlm hset hpn
          have HPN := Lib.hid hpn
          clear e1 e2 h0 m1 b1 b4 hiv hxv hqi hqk hqm hset hpn HPT
          obtain ⟨q0, q1⟩ := kk.two
          go_wp2
          refine wp_obs 26 [[], [], [1], [], [3], [1, 2, 3, 4], [], [6], [], [], [8, 9], [8, 9, 10], [], [8, 9, 10, 11, 12], [8, 9, 10, 11, 12, 13], [], [15], [], [17], [], [17, 18, 19], [17, 18, 19, 20], [15, 16, 17, 18, 19, 20, 21], [8, 9, 10, 11, 12, 13, 14, 15, 16, 17, 18, 19, 20, 21, 22], [6, 7, 8, 9, 10, 11, 12, 13, 14, 15, 16, 17, 18, 19, 20, 21, 22, 23], [0, 1, 2, 3, 4, 5], [0, 1, 2, 3, 4, 5, 6, 7, 8, 9, 10, 11, 12, 13, 14, 15, 16, 17, 18, 19, 20, 21, 22, 23, 24, 25]] [VIs (.slice (some ⟨go, 0, none⟩) (pw n) cO), VIs (.int .i64 (i)), VIs (.int .i64 (qi)), VIs (.int .i64 (k)), VIs (.int .i64 (qk)), VIs (.int .i64 (qm)), VIs (.agg #[.int .i64 P, .slice (some ⟨ga, oa, none⟩) n c]), VIs (.int .i64 (P)), VIs (.slice (some ⟨g, o, none⟩) n d), VIs (.int .i64 (i)), VIs (.pointer (some ⟨g, o + i, none⟩)), VIs (.slice (some ⟨gi, oi, none⟩) n ci), VIs (.int .i64 (k)), VIs (.pointer (some ⟨gi, oi + k, none⟩)), VIs (.int .i64 (mik)), VIs (.agg #[.int .i64 P, .slice (some ⟨ga, oa, none⟩) n c]), VIs (.int .i64 (P)), VIs (.pointer (some ⟨w.heap.size, 1, none⟩)), VIs (.slice (some ⟨ga, oa, none⟩) n c), VIs (.int .i64 (k)), VIs (.pointer (some ⟨ga, oa + k, none⟩)), VIs (.int .i64 (sk)), VIs (.int .i64 (iv)), VIs (.int .i64 (mik * iv)), VIs (.int .i64 (xv)), VIs (.pointer (some ⟨go, qm, none⟩))] (fun w' => Blk w' w.heap.size 26 #[.int .i64 P, .slice (some ⟨ga, oa, none⟩) n c] ∧ MkI w w' (some ⟨go, 0, none⟩) (pw n) cO us ∧ Below wr.heap.size wr w') (by kernel_rfl) (by kernel_rfl) (fun _ _ h hb => ⟨h.1.below hb h.1.lt, h.2.1.below hb, h.2.2.trans (hb.mono h.2.2.size)⟩) (⟨kk.drew, hM.drew, (Below.refl _ _).drew⟩) (fun x => ?_)
          refine obs_step (Eq.trans (by simp only [List.getElem?_toArray, List.getElem?_cons_zero]; exact rfl) rfl) rfl (fun w' hS hV K hK => ?_) ?_
          · obtain ⟨q0, q1⟩ := hS.1.two; obtain ⟨q2, q3, q4⟩ := HC.out _ hS.2.2
            go_simp
            exact hK.out _ _ _ rfl rfl rfl (Below.refl _ _)
          simp only [List.setIfInBounds_toArray, List.set_cons_zero, List.set_cons_succ]
          refine obs_step (Eq.trans (by simp only [List.getElem?_toArray, List.getElem?_cons_succ, List.getElem?_cons_zero]; exact rfl) rfl) rfl (fun w' hS hV K hK => ?_) ?_
          · obtain ⟨q0, q1⟩ := hS.1.two; obtain ⟨q2, q3, q4⟩ := HC.out _ hS.2.2
            go_simp
            exact hK.out _ _ _ rfl rfl rfl (Below.refl _ _)
          simp only [List.setIfInBounds_toArray, List.set_cons_zero, List.set_cons_succ]
          refine obs_step (Eq.trans (by simp only [List.getElem?_toArray, List.getElem?_cons_succ, List.getElem?_cons_zero]; exact rfl) rfl) rfl (fun w' hS hV K hK => ?_) ?_
          · have e1 : x 1 = (.int .i64 (i)) := hV 1 (by decide)
            obtain ⟨q0, q1⟩ := hS.1.two; obtain ⟨q2, q3, q4⟩ := HC.out _ hS.2.2
            go_simp
            exact hK.out _ _ _ rfl rfl rfl (Below.refl _ _)
          simp only [List.setIfInBounds_toArray, List.set_cons_zero, List.set_cons_succ]
          refine obs_step (Eq.trans (by simp only [List.getElem?_toArray, List.getElem?_cons_succ, List.getElem?_cons_zero]; exact rfl) rfl) rfl (fun w' hS hV K hK => ?_) ?_
          · obtain ⟨q0, q1⟩ := hS.1.two; obtain ⟨q2, q3, q4⟩ := HC.out _ hS.2.2
            go_simp
            exact hK.out _ _ _ rfl rfl rfl (Below.refl _ _)
          simp only [List.setIfInBounds_toArray, List.set_cons_zero, List.set_cons_succ]
          refine obs_step (Eq.trans (by simp only [List.getElem?_toArray, List.getElem?_cons_succ, List.getElem?_cons_zero]; exact rfl) rfl) rfl (fun w' hS hV K hK => ?_) ?_
          · have e3 : x 3 = (.int .i64 (k)) := hV 3 (by decide)
            obtain ⟨q0, q1⟩ := hS.1.two; obtain ⟨q2, q3, q4⟩ := HC.out _ hS.2.2
            go_simp
            exact hK.out _ _ _ rfl rfl rfl (Below.refl _ _)
          simp only [List.setIfInBounds_toArray, List.set_cons_zero, List.set_cons_succ]
          refine obs_step (Eq.trans (by simp only [List.getElem?_toArray, List.getElem?_cons_succ, List.getElem?_cons_zero]; exact rfl) rfl) rfl (fun w' hS hV K hK => ?_) ?_
          · have e1 : x 1 = (.int .i64 (i)) := hV 1 (by decide)
            have e2 : x 2 = (.int .i64 (qi)) := hV 2 (by decide)
            have e3 : x 3 = (.int .i64 (k)) := hV 3 (by decide)
            have e4 : x 4 = (.int .i64 (qk)) := hV 4 (by decide)
            obtain ⟨q0, q1⟩ := hS.1.two; obtain ⟨q2, q3, q4⟩ := HC.out _ hS.2.2
            go_simp
            exact hK.out _ _ _ rfl rfl rfl (Below.refl _ _)
          simp only [List.setIfInBounds_toArray, List.set_cons_zero, List.set_cons_succ]
          refine obs_step (Eq.trans (by simp only [List.getElem?_toArray, List.getElem?_cons_succ, List.getElem?_cons_zero]; exact rfl) rfl) rfl (fun w' hS hV K hK => ?_) ?_
          · obtain ⟨q0, q1⟩ := hS.1.two; obtain ⟨q2, q3, q4⟩ := HC.out _ hS.2.2
            go_simp
            exact hK.out _ _ _ rfl rfl rfl (Below.refl _ _)
          simp only [List.setIfInBounds_toArray, List.set_cons_zero, List.set_cons_succ]
          refine obs_step (Eq.trans (by simp only [List.getElem?_toArray, List.getElem?_cons_succ, List.getElem?_cons_zero]; exact rfl) rfl) rfl (fun w' hS hV K hK => ?_) ?_
          · have e6 : x 6 = (.agg #[.int .i64 P, .slice (some ⟨ga, oa, none⟩) n c]) := hV 6 (by decide)
            obtain ⟨q0, q1⟩ := hS.1.two; obtain ⟨q2, q3, q4⟩ := HC.out _ hS.2.2
            go_simp
            refine (field_any _ _ _ _ _).mono ?_
            rintro e v1 ⟨rfl, hb⟩
            exact hK.out _ _ _ rfl rfl rfl hb
          simp only [List.setIfInBounds_toArray, List.set_cons_zero, List.set_cons_succ]
          refine obs_step (Eq.trans (by simp only [List.getElem?_toArray, List.getElem?_cons_succ, List.getElem?_cons_zero]; exact rfl) rfl) rfl (fun w' hS hV K hK => ?_) ?_
          · obtain ⟨q0, q1⟩ := hS.1.two; obtain ⟨q2, q3, q4⟩ := HC.out _ hS.2.2
            go_simp
            exact hK.out _ _ _ rfl rfl rfl (Below.refl _ _)
          simp only [List.setIfInBounds_toArray, List.set_cons_zero, List.set_cons_succ]
          refine obs_step (Eq.trans (by simp only [List.getElem?_toArray, List.getElem?_cons_succ, List.getElem?_cons_zero]; exact rfl) rfl) rfl (fun w' hS hV K hK => ?_) ?_
          · obtain ⟨q0, q1⟩ := hS.1.two; obtain ⟨q2, q3, q4⟩ := HC.out _ hS.2.2
            go_simp
            exact hK.out _ _ _ rfl rfl rfl (Below.refl _ _)
          simp only [List.setIfInBounds_toArray, List.set_cons_zero, List.set_cons_succ]
          refine obs_step (Eq.trans (by simp only [List.getElem?_toArray, List.getElem?_cons_succ, List.getElem?_cons_zero]; exact rfl) rfl) rfl (fun w' hS hV K hK => ?_) ?_
          · have e8 : x 8 = (.slice (some ⟨g, o, none⟩) n d) := hV 8 (by decide)
            have e9 : x 9 = (.int .i64 (i)) := hV 9 (by decide)
            obtain ⟨q0, q1⟩ := hS.1.two; obtain ⟨q2, q3, q4⟩ := HC.out _ hS.2.2
            go_simp
            exact hK.out _ _ _ rfl rfl rfl (Below.refl _ _)
          simp only [List.setIfInBounds_toArray, List.set_cons_zero, List.set_cons_succ]
          refine obs_step (Eq.trans (by simp only [List.getElem?_toArray, List.getElem?_cons_succ, List.getElem?_cons_zero]; exact rfl) rfl) rfl (fun w' hS hV K hK => ?_) ?_
          · have e8 : x 8 = (.slice (some ⟨g, o, none⟩) n d) := hV 8 (by decide)
            have e9 : x 9 = (.int .i64 (i)) := hV 9 (by decide)
            have e10 : x 10 = (.pointer (some ⟨g, o + i, none⟩)) := hV 10 (by decide)
            obtain ⟨q0, q1⟩ := hS.1.two; obtain ⟨q2, q3, q4⟩ := HC.out _ hS.2.2
            go_simp
            exact hK.out _ _ _ rfl rfl rfl (Below.refl _ _)
          simp only [List.setIfInBounds_toArray, List.set_cons_zero, List.set_cons_succ]
          refine obs_step (Eq.trans (by simp only [List.getElem?_toArray, List.getElem?_cons_succ, List.getElem?_cons_zero]; exact rfl) rfl) rfl (fun w' hS hV K hK => ?_) ?_
          · obtain ⟨q0, q1⟩ := hS.1.two; obtain ⟨q2, q3, q4⟩ := HC.out _ hS.2.2
            go_simp
            exact hK.out _ _ _ rfl rfl rfl (Below.refl _ _)
          simp only [List.setIfInBounds_toArray, List.set_cons_zero, List.set_cons_succ]
          refine obs_step (Eq.trans (by simp only [List.getElem?_toArray, List.getElem?_cons_succ, List.getElem?_cons_zero]; exact rfl) rfl) rfl (fun w' hS hV K hK => ?_) ?_
          · have e8 : x 8 = (.slice (some ⟨g, o, none⟩) n d) := hV 8 (by decide)
            have e9 : x 9 = (.int .i64 (i)) := hV 9 (by decide)
            have e10 : x 10 = (.pointer (some ⟨g, o + i, none⟩)) := hV 10 (by decide)
            have e11 : x 11 = (.slice (some ⟨gi, oi, none⟩) n ci) := hV 11 (by decide)
            have e12 : x 12 = (.int .i64 (k)) := hV 12 (by decide)
            obtain ⟨q0, q1⟩ := hS.1.two; obtain ⟨q2, q3, q4⟩ := HC.out _ hS.2.2
            go_simp
            exact hK.out _ _ _ rfl rfl rfl (Below.refl _ _)
          simp only [List.setIfInBounds_toArray, List.set_cons_zero, List.set_cons_succ]
          refine obs_step (Eq.trans (by simp only [List.getElem?_toArray, List.getElem?_cons_succ, List.getElem?_cons_zero]; exact rfl) rfl) rfl (fun w' hS hV K hK => ?_) ?_
          · have e8 : x 8 = (.slice (some ⟨g, o, none⟩) n d) := hV 8 (by decide)
            have e9 : x 9 = (.int .i64 (i)) := hV 9 (by decide)
            have e10 : x 10 = (.pointer (some ⟨g, o + i, none⟩)) := hV 10 (by decide)
            have e11 : x 11 = (.slice (some ⟨gi, oi, none⟩) n ci) := hV 11 (by decide)
            have e12 : x 12 = (.int .i64 (k)) := hV 12 (by decide)
            have e13 : x 13 = (.pointer (some ⟨gi, oi + k, none⟩)) := hV 13 (by decide)
            obtain ⟨q0, q1⟩ := hS.1.two; obtain ⟨q2, q3, q4⟩ := HC.out _ hS.2.2
            go_simp
            exact hK.out _ _ _ rfl rfl rfl (Below.refl _ _)
          simp only [List.setIfInBounds_toArray, List.set_cons_zero, List.set_cons_succ]
          refine obs_step (Eq.trans (by simp only [List.getElem?_toArray, List.getElem?_cons_succ, List.getElem?_cons_zero]; exact rfl) rfl) rfl (fun w' hS hV K hK => ?_) ?_
          · obtain ⟨q0, q1⟩ := hS.1.two; obtain ⟨q2, q3, q4⟩ := HC.out _ hS.2.2
            go_simp
            exact hK.out _ _ _ rfl rfl rfl (Below.refl _ _)
          simp only [List.setIfInBounds_toArray, List.set_cons_zero, List.set_cons_succ]
          refine obs_step (Eq.trans (by simp only [List.getElem?_toArray, List.getElem?_cons_succ, List.getElem?_cons_zero]; exact rfl) rfl) rfl (fun w' hS hV K hK => ?_) ?_
          · have e15 : x 15 = (.agg #[.int .i64 P, .slice (some ⟨ga, oa, none⟩) n c]) := hV 15 (by decide)
            obtain ⟨q0, q1⟩ := hS.1.two; obtain ⟨q2, q3, q4⟩ := HC.out _ hS.2.2
            go_simp
            refine (field_any _ _ _ _ _).mono ?_
            rintro e v1 ⟨rfl, hb⟩
            exact hK.out _ _ _ rfl rfl rfl hb
          simp only [List.setIfInBounds_toArray, List.set_cons_zero, List.set_cons_succ]
          refine obs_step (Eq.trans (by simp only [List.getElem?_toArray, List.getElem?_cons_succ, List.getElem?_cons_zero]; exact rfl) rfl) rfl (fun w' hS hV K hK => ?_) ?_
          · obtain ⟨q0, q1⟩ := hS.1.two; obtain ⟨q2, q3, q4⟩ := HC.out _ hS.2.2
            go_simp
            exact hK.out _ _ _ rfl rfl rfl (Below.refl _ _)
          simp only [List.setIfInBounds_toArray, List.set_cons_zero, List.set_cons_succ]
          refine obs_step (Eq.trans (by simp only [List.getElem?_toArray, List.getElem?_cons_succ, List.getElem?_cons_zero]; exact rfl) rfl) rfl (fun w' hS hV K hK => ?_) ?_
          · have e17 : x 17 = (.pointer (some ⟨w.heap.size, 1, none⟩)) := hV 17 (by decide)
            obtain ⟨q0, q1⟩ := hS.1.two; obtain ⟨q2, q3, q4⟩ := HC.out _ hS.2.2
            go_simp
            exact hK.out _ _ _ rfl rfl rfl (Below.refl _ _)
          simp only [List.setIfInBounds_toArray, List.set_cons_zero, List.set_cons_succ]
          refine obs_step (Eq.trans (by simp only [List.getElem?_toArray, List.getElem?_cons_succ, List.getElem?_cons_zero]; exact rfl) rfl) rfl (fun w' hS hV K hK => ?_) ?_
          · obtain ⟨q0, q1⟩ := hS.1.two; obtain ⟨q2, q3, q4⟩ := HC.out _ hS.2.2
            go_simp
            exact hK.out _ _ _ rfl rfl rfl (Below.refl _ _)
          simp only [List.setIfInBounds_toArray, List.set_cons_zero, List.set_cons_succ]
          refine obs_step (Eq.trans (by simp only [List.getElem?_toArray, List.getElem?_cons_succ, List.getElem?_cons_zero]; exact rfl) rfl) rfl (fun w' hS hV K hK => ?_) ?_
          · have e17 : x 17 = (.pointer (some ⟨w.heap.size, 1, none⟩)) := hV 17 (by decide)
            have e18 : x 18 = (.slice (some ⟨ga, oa, none⟩) n c) := hV 18 (by decide)
            have e19 : x 19 = (.int .i64 (k)) := hV 19 (by decide)
            obtain ⟨q0, q1⟩ := hS.1.two; obtain ⟨q2, q3, q4⟩ := HC.out _ hS.2.2
            go_simp
            exact hK.out _ _ _ rfl rfl rfl (Below.refl _ _)
          simp only [List.setIfInBounds_toArray, List.set_cons_zero, List.set_cons_succ]
          refine obs_step (Eq.trans (by simp only [List.getElem?_toArray, List.getElem?_cons_succ, List.getElem?_cons_zero]; exact rfl) rfl) rfl (fun w' hS hV K hK => ?_) ?_
          · have e17 : x 17 = (.pointer (some ⟨w.heap.size, 1, none⟩)) := hV 17 (by decide)
            have e18 : x 18 = (.slice (some ⟨ga, oa, none⟩) n c) := hV 18 (by decide)
            have e19 : x 19 = (.int .i64 (k)) := hV 19 (by decide)
            have e20 : x 20 = (.pointer (some ⟨ga, oa + k, none⟩)) := hV 20 (by decide)
            obtain ⟨q0, q1⟩ := hS.1.two; obtain ⟨q2, q3, q4⟩ := HC.out _ hS.2.2
            go_simp
            exact hK.out _ _ _ rfl rfl rfl (Below.refl _ _)
          simp only [List.setIfInBounds_toArray, List.set_cons_zero, List.set_cons_succ]
          refine obs_step (Eq.trans (by simp only [List.getElem?_toArray, List.getElem?_cons_succ, List.getElem?_cons_zero]; exact rfl) rfl) rfl (fun w' hS hV K hK => ?_) ?_
          · have e15 : x 15 = (.agg #[.int .i64 P, .slice (some ⟨ga, oa, none⟩) n c]) := hV 15 (by decide)
            have e16 : x 16 = (.int .i64 (P)) := hV 16 (by decide)
            have e17 : x 17 = (.pointer (some ⟨w.heap.size, 1, none⟩)) := hV 17 (by decide)
            have e18 : x 18 = (.slice (some ⟨ga, oa, none⟩) n c) := hV 18 (by decide)
            have e19 : x 19 = (.int .i64 (k)) := hV 19 (by decide)
            have e20 : x 20 = (.pointer (some ⟨ga, oa + k, none⟩)) := hV 20 (by decide)
            have e21 : x 21 = (.int .i64 (sk)) := hV 21 (by decide)
            obtain ⟨q0, q1⟩ := hS.1.two; obtain ⟨q2, q3, q4⟩ := HC.out _ hS.2.2
            go_simp
            refine (hinv _).mono ?_
            rintro e v1 ⟨rfl, rfl⟩
            exact hK.out _ _ _ rfl rfl rfl (Below.refl _ _)
          simp only [List.setIfInBounds_toArray, List.set_cons_zero, List.set_cons_succ]
          refine obs_step (Eq.trans (by simp only [List.getElem?_toArray, List.getElem?_cons_succ, List.getElem?_cons_zero]; exact rfl) rfl) rfl (fun w' hS hV K hK => ?_) ?_
          · have e8 : x 8 = (.slice (some ⟨g, o, none⟩) n d) := hV 8 (by decide)
            have e9 : x 9 = (.int .i64 (i)) := hV 9 (by decide)
            have e10 : x 10 = (.pointer (some ⟨g, o + i, none⟩)) := hV 10 (by decide)
            have e11 : x 11 = (.slice (some ⟨gi, oi, none⟩) n ci) := hV 11 (by decide)
            have e12 : x 12 = (.int .i64 (k)) := hV 12 (by decide)
            have e13 : x 13 = (.pointer (some ⟨gi, oi + k, none⟩)) := hV 13 (by decide)
            have e14 : x 14 = (.int .i64 (mik)) := hV 14 (by decide)
            have e15 : x 15 = (.agg #[.int .i64 P, .slice (some ⟨ga, oa, none⟩) n c]) := hV 15 (by decide)
            have e16 : x 16 = (.int .i64 (P)) := hV 16 (by decide)
            have e17 : x 17 = (.pointer (some ⟨w.heap.size, 1, none⟩)) := hV 17 (by decide)
            have e18 : x 18 = (.slice (some ⟨ga, oa, none⟩) n c) := hV 18 (by decide)
            have e19 : x 19 = (.int .i64 (k)) := hV 19 (by decide)
            have e20 : x 20 = (.pointer (some ⟨ga, oa + k, none⟩)) := hV 20 (by decide)
            have e21 : x 21 = (.int .i64 (sk)) := hV 21 (by decide)
            have e22 : x 22 = (.int .i64 (iv)) := hV 22 (by decide)
            obtain ⟨q0, q1⟩ := hS.1.two; obtain ⟨q2, q3, q4⟩ := HC.out _ hS.2.2
            go_simp
            exact hK.out _ _ _ rfl rfl rfl (Below.refl _ _)
          simp only [List.setIfInBounds_toArray, List.set_cons_zero, List.set_cons_succ]
          refine obs_step (Eq.trans (by simp only [List.getElem?_toArray, List.getElem?_cons_succ, List.getElem?_cons_zero]; exact rfl) rfl) rfl (fun w' hS hV K hK => ?_) ?_
          · have e6 : x 6 = (.agg #[.int .i64 P, .slice (some ⟨ga, oa, none⟩) n c]) := hV 6 (by decide)
            have e7 : x 7 = (.int .i64 (P)) := hV 7 (by decide)
            have e8 : x 8 = (.slice (some ⟨g, o, none⟩) n d) := hV 8 (by decide)
            have e9 : x 9 = (.int .i64 (i)) := hV 9 (by decide)
            have e10 : x 10 = (.pointer (some ⟨g, o + i, none⟩)) := hV 10 (by decide)
            have e11 : x 11 = (.slice (some ⟨gi, oi, none⟩) n ci) := hV 11 (by decide)
            have e12 : x 12 = (.int .i64 (k)) := hV 12 (by decide)
            have e13 : x 13 = (.pointer (some ⟨gi, oi + k, none⟩)) := hV 13 (by decide)
            have e14 : x 14 = (.int .i64 (mik)) := hV 14 (by decide)
            have e15 : x 15 = (.agg #[.int .i64 P, .slice (some ⟨ga, oa, none⟩) n c]) := hV 15 (by decide)
            have e16 : x 16 = (.int .i64 (P)) := hV 16 (by decide)
            have e17 : x 17 = (.pointer (some ⟨w.heap.size, 1, none⟩)) := hV 17 (by decide)
            have e18 : x 18 = (.slice (some ⟨ga, oa, none⟩) n c) := hV 18 (by decide)
            have e19 : x 19 = (.int .i64 (k)) := hV 19 (by decide)
            have e20 : x 20 = (.pointer (some ⟨ga, oa + k, none⟩)) := hV 20 (by decide)
            have e21 : x 21 = (.int .i64 (sk)) := hV 21 (by decide)
            have e22 : x 22 = (.int .i64 (iv)) := hV 22 (by decide)
            have e23 : x 23 = (.int .i64 (mik * iv)) := hV 23 (by decide)
            obtain ⟨q0, q1⟩ := hS.1.two; obtain ⟨q2, q3, q4⟩ := HC.out _ hS.2.2
            go_simp
            refine (hnum9 _).mono ?_
            rintro e v1 ⟨rfl, rfl⟩
            exact hK.out _ _ _ rfl rfl rfl (Below.refl _ _)
          simp only [List.setIfInBounds_toArray, List.set_cons_zero, List.set_cons_succ]
          refine obs_step (Eq.trans (by simp only [List.getElem?_toArray, List.getElem?_cons_succ, List.getElem?_cons_zero]; exact rfl) rfl) rfl (fun w' hS hV K hK => ?_) ?_
          · have e0 : x 0 = (.slice (some ⟨go, 0, none⟩) (pw n) cO) := hV 0 (by decide)
            have e1 : x 1 = (.int .i64 (i)) := hV 1 (by decide)
            have e2 : x 2 = (.int .i64 (qi)) := hV 2 (by decide)
            have e3 : x 3 = (.int .i64 (k)) := hV 3 (by decide)
            have e4 : x 4 = (.int .i64 (qk)) := hV 4 (by decide)
            have e5 : x 5 = (.int .i64 (qm)) := hV 5 (by decide)
            obtain ⟨q0, q1⟩ := hS.1.two; obtain ⟨q2, q3, q4⟩ := HC.out _ hS.2.2
            go_simp
            exact hK.out _ _ _ rfl rfl rfl (Below.refl _ _)
          simp only [List.setIfInBounds_toArray, List.set_cons_zero, List.set_cons_succ]
          refine fun w' hS hV => ?_
          have e0 : x 0 = (.slice (some ⟨go, 0, none⟩) (pw n) cO) := hV 0 (by decide)
          have e1 : x 1 = (.int .i64 (i)) := hV 1 (by decide)
          have e2 : x 2 = (.int .i64 (qi)) := hV 2 (by decide)
          have e3 : x 3 = (.int .i64 (k)) := hV 3 (by decide)
          have e4 : x 4 = (.int .i64 (qk)) := hV 4 (by decide)
          have e5 : x 5 = (.int .i64 (qm)) := hV 5 (by decide)
          have e6 : x 6 = (.agg #[.int .i64 P, .slice (some ⟨ga, oa, none⟩) n c]) := hV 6 (by decide)
          have e7 : x 7 = (.int .i64 (P)) := hV 7 (by decide)
          have e8 : x 8 = (.slice (some ⟨g, o, none⟩) n d) := hV 8 (by decide)
          have e9 : x 9 = (.int .i64 (i)) := hV 9 (by decide)
          have e10 : x 10 = (.pointer (some ⟨g, o + i, none⟩)) := hV 10 (by decide)
          have e11 : x 11 = (.slice (some ⟨gi, oi, none⟩) n ci) := hV 11 (by decide)
          have e12 : x 12 = (.int .i64 (k)) := hV 12 (by decide)
          have e13 : x 13 = (.pointer (some ⟨gi, oi + k, none⟩)) := hV 13 (by decide)
          have e14 : x 14 = (.int .i64 (mik)) := hV 14 (by decide)
          have e15 : x 15 = (.agg #[.int .i64 P, .slice (some ⟨ga, oa, none⟩) n c]) := hV 15 (by decide)
          have e16 : x 16 = (.int .i64 (P)) := hV 16 (by decide)
          have e17 : x 17 = (.pointer (some ⟨w.heap.size, 1, none⟩)) := hV 17 (by decide)
          have e18 : x 18 = (.slice (some ⟨ga, oa, none⟩) n c) := hV 18 (by decide)
          have e19 : x 19 = (.int .i64 (k)) := hV 19 (by decide)
          have e20 : x 20 = (.pointer (some ⟨ga, oa + k, none⟩)) := hV 20 (by decide)
          have e21 : x 21 = (.int .i64 (sk)) := hV 21 (by decide)
          have e22 : x 22 = (.int .i64 (iv)) := hV 22 (by decide)
          have e23 : x 23 = (.int .i64 (mik * iv)) := hV 23 (by decide)
          have e24 : x 24 = (.int .i64 (xv)) := hV 24 (by decide)
          have e25 : x 25 = (.pointer (some ⟨go, qm, none⟩)) := hV 25 (by decide)
          simp only [e0, e1, e2, e3, e4, e5, e6, e7, e8, e9, e10, e11, e12, e13, e14, e15, e16, e17, e18, e19, e20, e21, e22, e23, e24, e25]
          clear e0 e1 e2 e3 e4 e5 e6 e7 e8 e9 e10 e11 e12 e13 e14 e15 e16 e17 e18 e19 e20 e21 e22 e23 e24 e25
          obtain ⟨k6, hM6, -⟩ := hS
          obtain ⟨w6, rfl⟩ : ∃ W, W = w' := ⟨_, rfl⟩
          have hset := (hM6.set qm (.int .i64 xv)).1
          rw [ints_set] at hset
          obtain ⟨hoc, hof⟩ := mkI_at hM6 hlm
          have k7 := k6.far hne (p := ⟨go, qm, none⟩) (.int .i64 xv)
          have HST := Lib.hid (And.intro hset k7)
          clear q0 q1 kk hM hM6 hset k7 k6 HC hnum9 hinv hor hwi hwk W1
          refine any_one (j := 26) (by kernel_rfl) (Eq.trans (by simp only [List.getElem?_toArray, List.getElem?_cons_succ, List.getElem?_cons_zero]; exact rfl) rfl) (fun K hK => ?_)
          go_simp
          clear hoc hof
          refine hK.out _ _ (wpAny_done (by kernel_rfl) ?_ _)
          go_wp2
          go_roundw
          case rel => exact ⟨k + 1, us.set qm xv, by omega, by omega, by go_num, HPN.out, HST.out.2, HST.out.1⟩
          case measure => simp [intOf]; omega
        · go_wp2
          go_roundw
          case rel => exact ⟨i + 1, us, by omega, by go_num, HPT.out.next (by omega) _ (by omega), kk, hM⟩
          case measure => simp [intOf]; omega
    · obtain rfl : i = n := by omega
      have hdn := HPT0.out.done (by omega) HXL.out.1 HXL.out.2.2
      have HD : Hid (MkI w wr (some ⟨go, 0, none⟩) (pw i) cO xs) := Lib.hid (hdn ▸ hM5)
      clear hdn
      go_wp2
      go_ret2
      exact ⟨_, _, rfl, HD.out⟩
end Go.Proofs.YtggigolkncckoaaGreat
namespace Go.Proofs.YtggigolkncckoaaGreat
open Go.RowKit
set_option maxHeartbeats 400000 in
theorem likeInts_any (A B : Option Addr) (n m c d : Nat) (xs ys : List Int) (w : World) (hn : n ≤ 1099511627776) (hm : m ≤ 1099511627776)
    (ha : Rd w A n (ints xs)) (hb : Rd w B m (ints ys)) :
    Calls Tryz.prog 19 #[.slice A n c, .slice B m d] w fun e w' => e = .returned (.bool (decide (xs = ys))) ∧ ∃ j, w' = w.drewN j := by
  have hxl : xs.length = n := by have := ha.1; rwa [ints_length] at this
  have hyl : ys.length = m := by have := hb.1; rwa [ints_length] at this
  by_cases hnm : n = m
  · subst hnm
    have Hx := Lib.hid hxl; clear hxl
    have Hy := Lib.hid hyl; clear hyl
    go_enter Tryz.func19, Tryz.ntmps19
    go_wp2
    go_loopw [5] (fun i wr => ∃ k j : Nat, k ≤ n ∧ i = .int .i64 k ∧ xs.take k = ys.take k ∧ wr = w.drewN j) (fun i _ => n - (intOf i).toNat)
    case atStart => exact ⟨0, 0, by omega, rfl, by simp, rfl⟩
    case round =>
      obtain ⟨k, j, hk, rfl, hxy, rfl⟩ := hrel
      have H := Lib.hid hxy; clear hxy
      by_cases hlt : k < n
      · obtain ⟨g, o, rfl, hx, hcx⟩ := ha.int hlt
        obtain ⟨g', o', rfl, hy, hcy⟩ := hb.int hlt
        clear ha hb
        go_wp2
        go_quiet (fail)
        go_wp2
        · go_ret
          exact ⟨ret_bool (ne_of_get xs ys k hx hy (by assumption)).symm, _, World.drewN_drewN _ _ _⟩
        · go_roundw
          case rel => exact ⟨k + 1, _, by omega, by go_num, take_succ_eq xs ys k hx hy H.out (by simpa using (by assumption : (xs[k] != ys[k]) = false)), rfl⟩
          case measure => simp [intOf]; omega
      · go_wp2
        go_ret
        refine ⟨ret_bool ?_, _, rfl⟩
        have := H.out
        rw [List.take_of_length_le (by rw [Hx.out]; omega), List.take_of_length_le (by rw [Hy.out]; omega)] at this
        rw [this]; simp
  · have hne : decide (xs = ys) = false := by
      rw [decide_eq_false_iff_not]; rintro rfl; omega
    have Hne := Lib.hid hne; clear hne hxl hyl
    have hb0 : ((n : Int) != (m : Int)) = true := by rw [bne_iff_ne]; omega
    go_enter Tryz.func19, Tryz.ntmps19
    go_wp2
    go_ret
    exact ⟨ret_bool Hne.out.symm, 0, rfl⟩
end Go.Proofs.YtggigolkncckoaaGreat

/-
  Plain mathematics: the outer product of the vectors of a reduced basis is not 0. No program in sight.
-/
import Derived.Test.YtommppijnccomaaGreatBlo
import Derived.Test.YtommppijnccomaaGreatEch
namespace Go.Proofs.YtommppijnccomaaGreat

theorem vecTo_get (n : Nat) (v : List Int) {b : Nat} (hb : b < pw n) : ∀ k, k ≤ n → (vecTo n v k).getD b 0 = sumTo k fun i => if b = 2 ^ i then v.getD i 0 else 0 := by
  intro k
  induction k with
  | zero =>
    intro _
    show (List.replicate (pw n) (0 : Int)).getD b 0 = 0
    rw [getD_of_lt 0 (by simpa using hb)]; simp
  | succ k ih =>
    intro hk
    rw [vecTo_succ, getD_set, vecTo_len, sumTo_succ, ih (by omega)]
    by_cases h : b = 2 ^ k
    · rw [if_pos ⟨h.symm, by rw [← h]; exact hb⟩, if_pos h, sumTo_zero (fun i hi => if_neg (fun e => by
        have := Nat.pow_lt_pow_right (show 1 < 2 by omega) hi
        omega)), Int.zero_add]
    · rw [if_neg (fun e => h e.1.symm), if_neg h, Int.add_zero]
theorem bit_iff (a i : Nat) : bit a i = 1 ↔ a.testBit i = true := by rw [Nat.testBit_eq_decide_div_mod_eq]; unfold bit; simp
theorem and_pow_zero (s i : Nat) : ((s ^^^ 2 ^ i) &&& 2 ^ i == 0) = s.testBit i := by
  have h : (s ^^^ 2 ^ i).testBit i = !s.testBit i := by rw [Nat.testBit_xor, Nat.testBit_two_pow_self]; simp
  cases hs : s.testBit i with
  | true =>
    rw [hs] at h
    rw [beq_iff_eq]
    apply Nat.eq_of_testBit_eq
    intro j
    rw [Nat.testBit_and, Nat.testBit_two_pow, Nat.zero_testBit]
    by_cases hj : i = j
    · subst hj; rw [h]; rfl
    · simp [hj]
  | false =>
    rw [hs] at h
    cases hc : ((s ^^^ 2 ^ i) &&& 2 ^ i == 0) with
    | false => rfl
    | true =>
      have := congrArg (fun x => Nat.testBit x i) (beq_iff_eq.1 hc)
      simp only [Nat.testBit_and, Nat.testBit_two_pow_self, h, Nat.zero_testBit] at this
      cases this
/-- The outer product with a vector, number by number. -/
theorem wedge_vec (P : Int) (sq W v : List Int) (n S : Nat) (hW : W.length = pw n) (hS : S < pw n) :
    (wedgeL P sq W (vecTo n v n)).getD S 0 = (sumTo n fun i => if S.testBit i then W.getD (S ^^^ 2 ^ i) 0 * v.getD i 0 * fac P sq (S ^^^ 2 ^ i) (2 ^ i) else 0) % P := by
  unfold wedgeL
  rw [prodL_getD P sq _ W (vecTo n v n) n S hW (vecTo_len n v n) hS]
  congr 1
  rw [sumTo_congr (g := fun a => sumTo n fun i => if a = S ^^^ 2 ^ i then (if S.testBit i then W.getD (S ^^^ 2 ^ i) 0 * v.getD i 0 * fac P sq (S ^^^ 2 ^ i) (2 ^ i) else 0) else 0) fun a ha => ?_, sumTo_comm]
  · refine sumTo_congr fun i hi => ?_
    have h2 : 2 ^ i < pw n := Nat.pow_lt_pow_right (by omega) hi
    rw [sumTo_one (f := fun a => if a = S ^^^ 2 ^ i then (if S.testBit i then W.getD (S ^^^ 2 ^ i) 0 * v.getD i 0 * fac P sq (S ^^^ 2 ^ i) (2 ^ i) else 0) else 0) (S ^^^ 2 ^ i) (xor_lt hS h2) (fun a _ hne => if_neg hne), if_pos rfl]
  · unfold term
    have hx : a ^^^ S < pw n := xor_lt ha hS
    rw [vecTo_get n v hx n (Nat.le_refl _)]
    by_cases ht : ((a &&& (a ^^^ S)) == 0) = true
    · rw [if_pos ht, Int.mul_comm (W.getD a 0), Int.mul_assoc, Int.mul_comm _ (W.getD a 0 * _), ← sumTo_mul]
      refine sumTo_congr fun i hi => ?_
      by_cases h : a ^^^ S = 2 ^ i
      · have ha' : a = S ^^^ 2 ^ i := by rw [← h, Nat.xor_comm a, ← Nat.xor_assoc, Nat.xor_self, Nat.zero_xor]
        have hs : S.testBit i = true := by rw [← and_pow_zero, ← ha', ← h]; exact ht
        rw [if_pos h, if_pos ha', if_pos hs, ← ha', ← h, Int.mul_assoc, Int.mul_assoc, Int.mul_comm (fac P sq a (a ^^^ S))]
      · rw [if_neg h, Int.mul_zero, if_neg (fun e => h (by rw [e, Nat.xor_comm, ← Nat.xor_assoc, Nat.xor_self, Nat.zero_xor]))]
    · rw [if_neg ht]
      refine (sumTo_zero fun i hi => ?_).symm
      by_cases h : a = S ^^^ 2 ^ i
      · rw [if_pos h, if_neg]
        rw [← and_pow_zero, ← h]
        intro hh
        refine ht ?_
        have : a ^^^ S = 2 ^ i := by rw [h, Nat.xor_comm, ← Nat.xor_assoc, Nat.xor_self, Nat.zero_xor]
        rw [this]; exact hh
      · exact if_neg h
theorem fac_above (P : Int) (sq : List Int) {a c : Nat} (h : a < 2 ^ c) : fac P sq a (2 ^ c) = 1 := by
  have hb : ∀ i, bit (2 ^ c) i = 1 → i = c := fun i hi => by
    rw [bit_iff, Nat.testBit_two_pow] at hi
    exact (by simpa using hi : c = i).symm
  have h1 : ∀ i, swaps a (2 ^ c) i = 0 := by
    intro i
    induction i with
    | zero => rfl
    | succ i ih =>
      simp only [swaps, ih, Nat.zero_add]
      split
      · rename_i hi
        rw [hb i hi, Nat.div_eq_of_lt (Nat.lt_of_lt_of_le h (Nat.pow_le_pow_right (by omega) (by omega))), pc_zero]
      · rfl
  have h2 : ∀ i, common P sq a (2 ^ c) i = 1 := by
    intro i
    induction i with
    | zero => rfl
    | succ i ih =>
      simp only [common]
      rw [if_neg, ih]
      rintro ⟨hi, ha⟩
      rw [hb i hi] at ha
      unfold bit at ha
      rw [Nat.div_eq_of_lt h] at ha; simp at ha
  unfold fac
  rw [h1, h2]; rfl
/-- The mask of the first places. -/
def maskTo (B : List (List Int)) : Nat → Nat
  | 0 => 0
  | k + 1 => maskTo B k ^^^ 2 ^ ld B k
theorem maskTo_lt {n : Nat} {B : List (List Int)} (hR : Red n B) : ∀ k, k ≤ B.length → maskTo B k < pw n := by
  intro k
  induction k with
  | zero => intro _; exact pw_pos n
  | succ k ih => intro hk; exact xor_lt (ih (by omega)) (Nat.pow_lt_pow_right (by omega) (hR.lt k hk))
theorem maskTo_below {n : Nat} {B : List (List Int)} (hR : Red n B) : ∀ k, k < B.length → maskTo B k < 2 ^ ld B k := by
  intro k
  induction k with
  | zero => intro _; exact Nat.two_pow_pos _
  | succ k ih =>
    intro hk
    have h1 := ih (by omega)
    have h2 := hR.mono k (k + 1) (by omega) hk
    have h3 : 2 ^ ld B k < 2 ^ ld B (k + 1) := Nat.pow_lt_pow_right (by omega) h2
    exact Nat.xor_lt_two_pow (by omega) h3
theorem maskTo_bits (B : List (List Int)) : ∀ k, k ≤ B.length → ∀ i, (maskTo B k).testBit i = true → isLd B i = true := by
  intro k
  induction k with
  | zero => intro _ i h; rw [show maskTo B 0 = 0 from rfl, Nat.zero_testBit] at h; cases h
  | succ k ih =>
    intro hk i h
    rw [show maskTo B (k + 1) = maskTo B k ^^^ 2 ^ ld B k from rfl, Nat.testBit_xor, Nat.testBit_two_pow] at h
    by_cases hi : ld B k = i
    · exact isLd_iff.2 ⟨k, hk, hi⟩
    · simp [hi] at h; exact ih (by omega) i h
theorem wedges_at {P : Int} (hp : 2 ≤ P) (sq : List Int) {n : Nat} {B : List (List Int)} (hR : Red n B) :
    ∀ k, k ≤ B.length → ∀ S, S < pw n → (∀ i, S.testBit i = true → isLd B i = true) → (wedgesL P sq n (B.take k)).getD S 0 = if S = maskTo B k then 1 else 0 := by
  intro k
  induction k with
  | zero =>
    intro _ S hS _
    show (bladeL n 0).getD S 0 = _
    rw [bladeL_getD n 0 S hS]
    by_cases h : 0 = S
    · rw [if_pos h, if_pos (show S = maskTo B 0 from h.symm)]
    · rw [if_neg h, if_neg (show ¬ S = maskTo B 0 from fun e => h e.symm)]
  | succ k ih =>
    intro hk S hS hb
    have hkl : k < B.length := by omega
    rw [List.take_succ_eq_append_getElem hkl, wedgesL_snoc, wedge_vec P sq _ _ n S (wedgesL_len P sq n _ _ rfl) hS]
    obtain ⟨c, hc⟩ : ∃ c, c = ld B k := ⟨_, rfl⟩
    have hcn : c < n := by rw [hc]; exact hR.lt k hkl
    have hent : ∀ i, (B[k]).getD i 0 = ent B k i := fun i => by unfold ent; rw [getD_of_lt [] hkl]
    rw [sumTo_one c hcn (fun i hi hic => by
      by_cases ht : S.testBit i = true
      · obtain ⟨j, hj, rfl⟩ := isLd_iff.1 (hb i ht)
        have hjk : k ≠ j := fun e => hic (by rw [hc, e])
        rw [if_pos ht, hent, hR.zero j k hj hkl hjk, Int.mul_zero, Int.zero_mul]
      · rw [if_neg ht])]
    have hone : (B[k]).getD c 0 = 1 := by rw [hent, hc]; exact hR.one k hkl
    have hm : maskTo B (k + 1) = maskTo B k ^^^ 2 ^ c := by rw [hc]; rfl
    have hlow := maskTo_below hR k hkl
    rw [← hc] at hlow
    by_cases ht : S.testBit c = true
    · rw [if_pos ht, hone, ih (by omega) (S ^^^ 2 ^ c) (xor_lt hS (Nat.pow_lt_pow_right (by omega) hcn)) (fun i hi => by
        rw [Nat.testBit_xor, Nat.testBit_two_pow] at hi
        by_cases hci : c = i
        · exact hb i (hci ▸ ht)
        · simp [hci] at hi; exact hb i hi), hm]
      by_cases he : S ^^^ 2 ^ c = maskTo B k
      · have hS' : S = maskTo B k ^^^ 2 ^ c := by rw [← he, Nat.xor_assoc, Nat.xor_self, Nat.xor_zero]
        rw [if_pos he, if_pos hS', he, fac_above P sq hlow, Int.one_mul, Int.one_mul, Int.emod_eq_of_lt (by omega) (by omega)]
      · have hS' : ¬ S = maskTo B k ^^^ 2 ^ c := fun e => he (by rw [e, Nat.xor_assoc, Nat.xor_self, Nat.xor_zero])
        rw [if_neg he, if_neg hS', Int.zero_mul, Int.zero_mul]; simp
    · rw [if_neg ht, if_neg]
      · simp
      · intro e
        refine ht ?_
        rw [e, hm, Nat.testBit_xor, Nat.testBit_lt_two_pow hlow, Nat.testBit_two_pow_self]; rfl
theorem wedges_lead {P : Int} (hp : 2 ≤ P) (sq : List Int) {n : Nat} {B : List (List Int)} (hR : Red n B) : leadL (wedgesL P sq n B) < pw n := by
  have hl := wedgesL_len P sq n B.length B rfl
  have h := wedges_at hp sq hR B.length (Nat.le_refl _) _ (maskTo_lt hR _ (Nat.le_refl _)) (maskTo_bits B _ (Nat.le_refl _))
  rw [List.take_length, if_pos rfl] at h
  have hle := leadL_le (wedgesL P sq n B)
  refine Nat.lt_of_le_of_ne (by omega) fun e => ?_
  have := leadL_before (wedgesL P sq n B) (maskTo B B.length) (by rw [e]; exact maskTo_lt hR _ (Nat.le_refl _))
  rw [this] at h; cases h
theorem bla_lead {P : Int} (HP : isP P = true) (sq : List Int) {n : Nat} {L : List (List Int)} (hL : Tab P n L) : leadL (blaL P sq n L) < pw n :=
  wedges_lead (by have := isP_ge HP; omega) sq (basisL_red HP L hL)
end Go.Proofs.YtommppijnccomaaGreat

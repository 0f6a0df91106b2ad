/-
  LawFnMinimalPolynomials: part 6 of the texts that the proof needs. No condition.
-/
import Derived.Test.YtmkjdpnoloofjaaGreatM5
namespace Go.Proofs.YtmkjdpnoloofjaaGreat
/-- Two numbers of a row exchanged; a multiple of one number added to another one. -/
def swapR (i k : Nat) (row : List Int) : List Int := (row.set i (row.getD k 0)).set k (row.getD i 0)
def addC (p : Int) (k r : Nat) (f : Int) (row : List Int) : List Int := row.set k ((row.getD k 0 + f * row.getD r 0) % p)
/-- The first j rows changed. -/
def rowsTo (g : List Int → List Int) (m : List (List Int)) (j : Nat) : List (List Int) := tab m.length fun q => if q < j then g (m.getD q []) else m.getD q []
/-- One row and one column; all rows below; one column. -/
def hesF (p : Int) (k : Nat) (m : List (List Int)) (r : Nat) : Int := (ent m r (k - 1) * invF p (ent m k (k - 1))) % p
def hesA (p : Int) (k : Nat) (m : List (List Int)) (r : Nat) : List (List Int) := m.set r (plusL p (m.getD r []) (m.getD k []) (-(hesF p k m r)))
def hesR (p : Int) (k : Nat) (m : List (List Int)) (r : Nat) : List (List Int) := rowsTo (addC p k r (hesF p k m r)) (hesA p k m r) m.length
def hesRs (p : Int) (k : Nat) (m : List (List Int)) : Nat → List (List Int)
 | 0 => m
 | j + 1 => hesR p k (hesRs p k m j) (k + 1 + j)
def hesW (m : List (List Int)) (i k : Nat) : List (List Int) := rowsTo (swapR i k) (swapL m i k) m.length
def hesS (p : Int) (k : Nat) (m : List (List Int)) : List (List Int) :=
 if pivOf m (k - 1) k = m.length then m else hesRs p k (hesW m (pivOf m (k - 1) k) k) (m.length - (k + 1))
def hesTo (p : Int) (m : List (List Int)) : Nat → List (List Int)
 | 0 => m
 | k + 1 => hesS p (k + 1) (hesTo p m k)
def hesL (p : Int) (m : List (List Int)) : List (List Int) := hesTo p m (m.length - 2)
/-- The polynomials of the parts. -/
def chF (p : Int) (h : List (List Int)) (k : Nat) : Nat → Int
 | 0 => 1
 | i + 1 => (chF p h k i * ent h (k - (i + 1)) (k - (i + 1) - 1)) % p
def chN (p : Int) (h L : List (List Int)) (k : Nat) : Nat → List Int
 | 0 => plusL p (0 :: L.getD (k - 1) []) (L.getD (k - 1) []) (-(ent h (k - 1) (k - 1)))
 | i + 1 => plusL p (chN p h L k i) (L.getD (k - (i + 1) - 1) []) (-(chF p h k (i + 1)) * ent h (k - (i + 1) - 1) (k - 1))
def chTo (p : Int) (h : List (List Int)) : Nat → List (List Int)
 | 0 => [[1]]
 | k + 1 => chTo p h k ++ [chN p h (chTo p h k) (k + 1) k]
def charL (p : Int) (m : List (List Int)) : List Int := (chTo p (hesL p m) m.length).getD m.length []
theorem rowsTo_len (g : List Int → List Int) (m : List (List Int)) (j : Nat) : (rowsTo g m j).length = m.length := tab_len _ _
theorem rowsTo_zero (g : List Int → List Int) (m : List (List Int)) : rowsTo g m 0 = m := by
 refine Eq.trans (tab_congr fun i _ => ?_) (eq_tab (n := m.length) [] rfl).symm
 rw [if_neg (by omega)]
theorem rowsTo_getD {g : List Int → List Int} {m : List (List Int)} {j q : Nat} (h : q < m.length) : (rowsTo g m j).getD q [] = if q < j then g (m.getD q []) else m.getD q [] := tab_getD h []
theorem rowsTo_succ (g : List Int → List Int) (m : List (List Int)) {j : Nat} (hj : j < m.length) : rowsTo g m (j + 1) = (rowsTo g m j).set j (g (m.getD j [])) := by
 apply list_ext_getD [] (by rw [List.length_set, rowsTo_len, rowsTo_len])
 intro r hr
 rw [rowsTo_len] at hr
 rw [getD_set, rowsTo_getD hr, rowsTo_getD hr, rowsTo_len]
 by_cases h1 : j = r
 · subst h1; rw [if_pos (by omega), if_pos ⟨rfl, hj⟩]
 · rw [if_neg (c := j = r ∧ _) (fun hh => h1 hh.1)]
   by_cases h2 : r < j
   · rw [if_pos (by omega), if_pos h2]
   · rw [if_neg (by omega), if_neg h2]
theorem rowsTo_tab {p : Int} {n : Nat} {g : List Int → List Int} {m : List (List Int)} (h : Tab p n m) (hg : ∀ x, x.length = n → NumsL p x → (g x).length = n ∧ NumsL p (g x)) (j : Nat) : Tab p n (rowsTo g m j) := by
 refine Tab.tab fun r hr => ?_
 split
 · exact hg _ (h.row hr).1 (h.row hr).2
 · exact h.row hr
theorem swapR_ok {p : Int} {n i k : Nat} (hp : 0 < p) (x : List Int) (h1 : x.length = n) (h2 : NumsL p x) : (swapR i k x).length = n ∧ NumsL p (swapR i k x) := by
 refine ⟨by unfold swapR; simp [h1], (h2.set _ (h2.getD hp k)).set _ (h2.getD hp i)⟩
theorem addC_ok {p : Int} {n k r : Nat} {f : Int} (hp : 0 < p) (x : List Int) (h1 : x.length = n) (h2 : NumsL p x) : (addC p k r f x).length = n ∧ NumsL p (addC p k r f x) := by
 refine ⟨by unfold addC; simp [h1], h2.set _ ⟨Int.emod_nonneg _ (by omega), Int.emod_lt_of_pos _ hp⟩⟩
section
variable {p : Int} {n : Nat} {m : List (List Int)}
theorem hesA_tab (hp : 0 < p) (h : Tab p n m) (k r : Nat) (hr : r < m.length) : Tab p n (hesA p k m r) ∧ (hesA p k m r).length = m.length :=
 ⟨h.set r ⟨by rw [plusL_len, (h.row hr).1], plusL_nums hp _ _ _⟩, by unfold hesA; rw [List.length_set]⟩
theorem hesR_tab (hp : 0 < p) (h : Tab p n m) (k r : Nat) (hr : r < m.length) : Tab p n (hesR p k m r) ∧ (hesR p k m r).length = m.length :=
 ⟨rowsTo_tab (hesA_tab hp h k r hr).1 (fun x h1 h2 => addC_ok hp x h1 h2) _, by unfold hesR; rw [rowsTo_len, (hesA_tab hp h k r hr).2]⟩
theorem hesRs_tab (hp : 0 < p) (h : Tab p n m) (k : Nat) : ∀ j, k + 1 + j ≤ m.length → Tab p n (hesRs p k m j) ∧ (hesRs p k m j).length = m.length
 | 0, _ => ⟨h, rfl⟩
 | j + 1, hj => by
  obtain ⟨h1, h2⟩ := hesRs_tab hp h k j (by omega)
  obtain ⟨h3, h4⟩ := hesR_tab hp h1 k (k + 1 + j) (by rw [h2]; omega)
  exact ⟨h3, h4.trans h2⟩
theorem hesW_tab (hp : 0 < p) (h : Tab p n m) {i k : Nat} (hi : i < m.length) (hk : k < m.length) : Tab p n (hesW m i k) ∧ (hesW m i k).length = m.length :=
 ⟨rowsTo_tab (swapL_tab h hi hk) (fun x h1 h2 => swapR_ok hp x h1 h2) _, by unfold hesW; rw [rowsTo_len, swapL_len]⟩
theorem hesS_tab (hp : 0 < p) (h : Tab p n m) {k : Nat} (hk : k + 1 < m.length) : Tab p n (hesS p k m) ∧ (hesS p k m).length = m.length := by
 unfold hesS
 split
 · exact ⟨h, rfl⟩
 · rename_i hne
   have hb := pivOf_bound m (k - 1) k (by omega)
   obtain ⟨h1, h2⟩ := hesW_tab hp h (i := pivOf m (k - 1) k) (k := k) (by omega) (by omega)
   obtain ⟨h3, h4⟩ := hesRs_tab hp h1 k (m.length - (k + 1)) (by rw [h2]; omega)
   exact ⟨h3, h4.trans h2⟩
theorem hesTo_tab (hp : 0 < p) (h : Tab p n m) : ∀ k, k + 1 < m.length ∨ k = 0 → Tab p n (hesTo p m k) ∧ (hesTo p m k).length = m.length
 | 0, _ => ⟨h, rfl⟩
 | k + 1, hk => by
  obtain ⟨h1, h2⟩ := hesTo_tab hp h k (by omega)
  obtain ⟨h3, h4⟩ := hesS_tab hp h1 (k := k + 1) (by rw [h2]; omega)
  exact ⟨h3, h4.trans h2⟩
theorem hesL_tab (hp : 0 < p) (h : Tab p n m) : Tab p n (hesL p m) ∧ (hesL p m).length = m.length := hesTo_tab hp h _ (by omega)
/-- Numbers of the changed tables. -/
theorem ent_rows {g : List Int → List Int} {q : Nat} (hq : q < m.length) (c : Nat) : ent (rowsTo g m m.length) q c = (g (m.getD q [])).getD c 0 := by
 unfold ent; rw [rowsTo_getD hq, if_pos hq]
theorem hesA_ent (h : Tab p n m) {k r q c : Nat} (hr : r < m.length) (hc : c < n) : ent (hesA p k m r) q c = if q = r then (ent m r c - hesF p k m r * ent m k c) % p else ent m q c := by
 unfold hesA
 rw [ent_set hr]
 split
 · rw [plusL_getD _ _ (by rw [(h.row hr).1]; exact hc), Int.neg_mul, ← Int.sub_eq_add_neg]; rfl
 · rfl
theorem hesR_ent (hp : 0 < p) (h : Tab p n m) {k r q c : Nat} (hr : r < m.length) (hq : q < m.length) (hc : c < n) :
    ent (hesR p k m r) q c = if c = k then (ent (hesA p k m r) q k + hesF p k m r * ent (hesA p k m r) q r) % p else ent (hesA p k m r) q c := by
 obtain ⟨h1, h2⟩ := hesA_tab hp h k r hr
 have hq2 : q < (hesA p k m r).length := by omega
 unfold hesR
 rw [← h2, ent_rows hq2]
 unfold addC
 rw [getD_set]
 by_cases e : c = k
 · rw [if_pos e, if_pos ⟨e.symm, by rw [(h1.row hq2).1]; omega⟩]; rfl
 · rw [if_neg e, if_neg (fun hh => e hh.1.symm)]; rfl
theorem swapR_at {row : List Int} {i k c : Nat} (hi : i < row.length) (hk : k < row.length) : (swapR i k row).getD c 0 = row.getD (if c = i then k else if c = k then i else c) 0 := by
 unfold swapR
 rw [getD_set, getD_set, List.length_set]
 by_cases h1 : c = k
 · subst h1
   rw [if_pos ⟨rfl, hk⟩]
   by_cases h2 : c = i
   · rw [if_pos h2, h2]
   · rw [if_neg h2, if_pos rfl]
 · rw [if_neg (fun hh => h1 hh.1.symm)]
   by_cases h2 : c = i
   · rw [if_pos ⟨h2.symm, hi⟩, if_pos h2]
   · rw [if_neg (fun hh => h2 hh.1.symm), if_neg h2, if_neg h1]
def trn (i k c : Nat) : Nat := if c = i then k else if c = k then i else c
theorem hesW_ent (h : Tab p n m) {i k q c : Nat} (hi : i < m.length) (hk : k < m.length) (hin : i < n) (hkn : k < n) (hq : q < m.length) : ent (hesW m i k) q c = ent m (trn i k q) (trn i k c) := by
 have hS := swapL_tab h hi hk
 have hq2 : q < (swapL m i k).length := by rw [swapL_len]; exact hq
 have e1 : ent (hesW m i k) q c = (swapR i k ((swapL m i k).getD q [])).getD c 0 := by
  unfold hesW
  have := ent_rows (g := swapR i k) hq2 c
  rw [swapL_len] at this
  exact this
 rw [e1, swapR_at (by rw [(hS.row hq2).1]; exact hin) (by rw [(hS.row hq2).1]; exact hkn)]
 show ent (swapL m i k) q (trn i k c) = _
 rw [ent_swap hi hk]
 unfold trn
 by_cases h1 : q = k
 · subst h1
   rw [if_pos rfl]
   by_cases h2 : q = i
   · rw [if_pos h2, h2]
   · rw [if_neg h2, if_pos rfl]
 · rw [if_neg h1]
   by_cases h2 : q = i
   · rw [if_pos h2, if_pos h2]
   · rw [if_neg h2, if_neg h2, if_neg h1]
/-- The columns before k have numbers other than 0 just to the one below the diagonal. -/
def Low (m : List (List Int)) (k : Nat) : Prop := ∀ c r, c < k → c + 1 < r → r < m.length → ent m r c = 0
theorem Low.ofR (hP : isP p = true) (h : Tab p m.length m) {k r : Nat} (hk : 1 ≤ k) (hkr : k < r) (hr : r < m.length) (hL : Low m (k - 1)) (h0 : ent m k (k - 1) ≠ 0) :
    Low (hesR p k m r) (k - 1) ∧ ent (hesR p k m r) k (k - 1) ≠ 0 ∧ ent (hesR p k m r) r (k - 1) = 0 ∧ ∀ q, q < m.length → q ≠ r → ent (hesR p k m r) q (k - 1) = ent m q (k - 1) := by
 have h3 := isP_ge hP
 have hp : 0 < p := by omega
 obtain ⟨t1, t2⟩ := hesR_tab hp h k r hr
 have key : ∀ q c, q < m.length → c < k → ent (hesR p k m r) q c = if q = r then (ent m r c - hesF p k m r * ent m k c) % p else ent m q c := fun q c hq hc => by
  rw [hesR_ent hp h hr hq (by omega), if_neg (by omega), hesA_ent h hr (by omega)]
 refine ⟨fun c q hc hq1 hq2 => ?_, ?_, ?_, fun q hq hne => ?_⟩
 · rw [t2] at hq2
   rw [key q c hq2 (by omega)]
   split
   · rw [hL c r hc (by omega) hr, hL c k hc (by omega) (by omega)]; simp
   · exact hL c q hc hq1 hq2
 · rw [key k (k - 1) (by omega) (by omega), if_neg (by omega)]; exact h0
 · rw [key r (k - 1) hr (by omega), if_pos rfl]
   unfold hesF
   have hsm := (h.row (show k < m.length by omega)).2.getD hp (k - 1)
   have hinv : invF p (ent m k (k - 1)) * ent m k (k - 1) % p = 1 := by
    have hm : ent m k (k - 1) % p = ent m k (k - 1) := Int.emod_eq_of_lt hsm.1 hsm.2
    have := inv_mod hP (a := ent m k (k - 1)) (by rw [hm]; exact h0)
    rw [hm, Int.mul_comm] at this
    exact this
   have e : (ent m r (k - 1) * invF p (ent m k (k - 1)) % p * ent m k (k - 1)) % p = ent m r (k - 1) % p := by
    rw [Int.mul_emod, Int.emod_emod_of_dvd _ (Int.dvd_refl p), ← Int.mul_emod, Int.mul_assoc, Int.mul_emod, hinv, Int.mul_one, Int.emod_emod_of_dvd _ (Int.dvd_refl p)]
   rw [Int.sub_emod, e, Int.sub_self, Int.zero_emod]
 · rw [key q (k - 1) hq (by omega), if_neg hne]
theorem Low.ofRs (hP : isP p = true) (h : Tab p m.length m) {k : Nat} (hk : 1 ≤ k) (hL : Low m (k - 1)) (h0 : ent m k (k - 1) ≠ 0) : ∀ j, k + 1 + j ≤ m.length →
    Low (hesRs p k m j) (k - 1) ∧ ent (hesRs p k m j) k (k - 1) ≠ 0 ∧ ∀ r, k < r → r < k + 1 + j → ent (hesRs p k m j) r (k - 1) = 0
 | 0, _ => ⟨hL, h0, fun r h1 h2 => by omega⟩
 | j + 1, hj => by
  obtain ⟨i1, i2, i3⟩ := Low.ofRs hP h hk hL h0 j (by omega)
  obtain ⟨t1, t2⟩ := hesRs_tab (by have := isP_ge hP; omega) h k j (by omega)
  obtain ⟨a1, a2, a3, a4⟩ := Low.ofR hP (m := hesRs p k m j) (by rw [t2]; exact t1) hk (show k < k + 1 + j by omega) (by rw [t2]; omega) i1 i2
  refine ⟨a1, a2, fun r h1 h2 => ?_⟩
  rcases Nat.lt_or_ge r (k + 1 + j) with hl | hl
  · exact (a4 r (by rw [t2]; omega) (by omega)).trans (i3 r h1 hl)
  · obtain rfl : r = k + 1 + j := by omega
    exact a3
theorem trn_lt {i k c N : Nat} (hi : i < N) (hk : k < N) (hc : c < N) : trn i k c < N := by
 unfold trn
 split
 · exact hk
 · split <;> assumption
theorem trn_small {i k c : Nat} (hi : k ≤ i) (hc : c < k) : trn i k c = c := by unfold trn; rw [if_neg (by omega), if_neg (by omega)]
theorem trn_big {i k c : Nat} (hi : k ≤ i) (hc : k ≤ c) : k ≤ trn i k c := by
 unfold trn
 split
 · exact Nat.le_refl _
 · split <;> omega
theorem trn_two (i k c : Nat) : trn i k (trn i k c) = c := by
 unfold trn
 by_cases h1 : c = i
 · subst h1
   rw [if_pos rfl]
   by_cases h2 : k = c
   · rw [if_pos h2, h2]
   · rw [if_neg h2, if_pos rfl]
 · rw [if_neg h1]
   by_cases h2 : c = k
   · rw [if_pos h2, if_pos rfl, h2]
   · rw [if_neg h2, if_neg h1, if_neg h2]
theorem Low.ofS (hP : isP p = true) (h : Tab p m.length m) {k : Nat} (hk : 1 ≤ k) (hkn : k + 1 < m.length) (hL : Low m (k - 1)) : Low (hesS p k m) k := by
 have h3 := isP_ge hP
 have hp : 0 < p := by omega
 have hb := pivOf_bound m (k - 1) k (by omega)
 have join : ∀ M : List (List Int), Low M (k - 1) → (∀ r, k < r → r < M.length → ent M r (k - 1) = 0) → Low M k := fun M h1 h2 c r hc hr hr2 => by
  rcases Nat.lt_or_ge c (k - 1) with hl | hl
  · exact h1 c r hl hr hr2
  · obtain rfl : c = k - 1 := by omega
    exact h2 r (by omega) hr2
 unfold hesS
 split
 · rename_i he
   refine join m hL fun r h1 h2 => piv_before m (k - 1) (m.length - k) k r (by omega) ?_
   show r < pivOf m (k - 1) k
   rw [he]; exact h2
 · rename_i hne
   obtain ⟨i, hi⟩ : ∃ i, i = pivOf m (k - 1) k := ⟨_, rfl⟩
   have h0 : ent m i (k - 1) ≠ 0 := by rw [hi]; exact piv_at m (k - 1) (m.length - k) k (by show pivOf m (k - 1) k < _; omega)
   rw [← hi] at hb hne ⊢
   obtain ⟨t1, t2⟩ := hesW_tab hp h (i := i) (k := k) (by omega) (by omega)
   have hW : ∀ q c, q < m.length → ent (hesW m i k) q c = ent m (trn i k q) (trn i k c) := fun q c hq => hesW_ent h (by omega) (by omega) (by omega) (by omega) hq
   have l1 : Low (hesW m i k) (k - 1) := fun c r hc hr1 hr2 => by
    rw [t2] at hr2
    rw [hW r c hr2, trn_small (c := c) hb.1 (by omega)]
    refine hL c _ hc ?_ (trn_lt (by omega) (by omega) hr2)
    rcases Nat.lt_or_ge r k with hl | hl
    · rw [trn_small hb.1 hl]; exact hr1
    · have := trn_big hb.1 hl; omega
   have l2 : ent (hesW m i k) k (k - 1) ≠ 0 := by
    rw [hW k (k - 1) (by omega), trn_small hb.1 (show k - 1 < k by omega)]
    have e : trn i k k = i := by
     unfold trn
     by_cases hh : k = i
     · rw [if_pos hh, hh]
     · rw [if_neg hh, if_pos rfl]
    rw [e]; exact h0
   obtain ⟨j1, j2, j3⟩ := Low.ofRs hP (m := hesW m i k) (by rw [t2]; exact t1) hk l1 l2 (m.length - (k + 1)) (by rw [t2]; omega)
   obtain ⟨_, t4⟩ := hesRs_tab hp t1 k (m.length - (k + 1)) (by rw [t2]; omega)
   refine join _ j1 fun r h1 h2 => j3 r h1 ?_
   rw [t4, t2] at h2; omega
theorem Low.ofTo (hP : isP p = true) (h : Tab p m.length m) : ∀ k, k + 1 < m.length ∨ k = 0 → Low (hesTo p m k) k
 | 0, _ => fun c r hc => by omega
 | k + 1, hk => by
  obtain ⟨t1, t2⟩ := hesTo_tab (by have := isP_ge hP; omega) h k (by omega)
  exact Low.ofS hP (m := hesTo p m k) (by rw [t2]; exact t1) (by omega) (by rw [t2]; omega) (Low.ofTo hP h k (by omega))
theorem hesL_low (hP : isP p = true) (h : Tab p m.length m) : ∀ c r, c + 1 < r → r < m.length → ent (hesL p m) r c = 0 := fun c r hc hr => by
 have hL := Low.ofTo hP h (m.length - 2) (by omega)
 exact hL c r (by omega) hc (by have := (hesL_tab (by have := isP_ge hP; omega) h).2; unfold hesL at this; omega)
end
section
variable {p : Int} {sq : List Int}
/-- A table tells what a multivector makes of some multivectors. -/
structure Fit (hp : 0 < p) (x : Cl p sq) (m : List (List Int)) (b : Nat → Cl p sq) : Prop where
 tab : Tab p m.length m
 made : ∀ k, k < m.length → x * b k = Cl.sum hp m.length fun i => ent m i k * b i
 all : ∀ W : Cl p sq → Prop, W (Cl.zero hp) → (∀ a c, W a → W c → W (a + c)) → (∀ (k : Int) a, W a → W (k * a)) → (∀ i, i < m.length → W (b i)) → ∀ z, W z
theorem Cl.sum_shift (hp : 0 < p) {N : Nat} {f g : Nat → Cl p sq} {r k : Nat} (hr : r < N) (hk : k < N) (hrk : r ≠ k) (d : Cl p sq) (h1 : g r = f r + (-1 : Int) * d) (h2 : g k = f k + d) (h3 : ∀ i, i < N → i ≠ r → i ≠ k → g i = f i) :
    Cl.sum hp N g = Cl.sum hp N f := Cl.same fun q hq => by
 rw [Cl.sum_co hp _ hq, Cl.sum_co hp _ hq]
 have e : sumTo N (fun i => (f i).co q + if i = r then -(d.co q) else if i = k then d.co q else 0) = sumTo N fun i => (f i).co q := by
  have e2 : sumTo N (fun i => if i = r then -(d.co q) else if i = k then d.co q else 0) = 0 := by
   rw [sumTo_two (f := fun i => if i = r then -(d.co q) else if i = k then d.co q else 0) r k hr hk hrk fun i _ h5 h6 => by rw [if_neg h5, if_neg h6], if_pos rfl, if_neg (fun h => hrk h.symm), if_pos rfl]
   omega
  rw [sumTo_add, e2, Int.add_zero]
 rw [← e]
 refine sumTo_mod p fun i hi => ?_
 by_cases e1 : i = r
 · subst e1
   rw [h1, if_pos rfl, Cl.add_co _ _ hq, Int.add_emod, Cl.sm_co _ _ hq, ← Int.add_emod, Int.neg_mul, Int.one_mul]
 · rw [if_neg e1]
   by_cases e2 : i = k
   · subst e2
     rw [h2, if_pos rfl, Cl.add_co _ _ hq]
   · rw [if_neg e2, h3 i hi e1 e2, Int.add_zero]
theorem Cl.sum_plus (hp : 0 < p) (f g : Nat → Cl p sq) (N : Nat) : Cl.sum hp N (fun i => f i + g i) = Cl.sum hp N f + Cl.sum hp N g := Cl.same fun q hq => by
 rw [Cl.add_co _ _ hq, Int.add_emod, Cl.sum_co hp _ hq, Cl.sum_co hp _ hq, Cl.sum_co hp _ hq, ← Int.add_emod, ← sumTo_add]
 exact sumTo_mod p fun i _ => Cl.add_co _ _ hq
theorem Cl.sum_sm (hp : 0 < p) (k : Int) (f : Nat → Cl p sq) (N : Nat) : Cl.sum hp N (fun i => k * f i) = k * Cl.sum hp N f := by
 have h := Cl.mul_sumr hp (k * Cl.one hp) f N
 rw [Cl.sm_mul, Cl.one_mul] at h
 rw [h]
 exact Cl.sum_congr hp _ fun i _ => by rw [Cl.sm_mul, Cl.one_mul]
/-- One step of the form. -/
theorem Fit.ofR (hp : 0 < p) {x : Cl p sq} {m : List (List Int)} {b : Nat → Cl p sq} (h : Fit hp x m b) {k r : Nat} (hk : k < m.length) (hr : r < m.length) (hkr : k ≠ r) : ∃ b', Fit hp x (hesR p k m r) b' := by
 obtain ⟨f, hf⟩ : ∃ f, f = hesF p k m r := ⟨_, rfl⟩
 obtain ⟨a1, a2⟩ := hesA_tab hp h.tab k r hr
 obtain ⟨t1, t2⟩ := hesR_tab hp h.tab k r hr
 have hbk : ∀ i, i ≠ k → (if i = k then b k + f * b r else b i) = b i := fun i hi => if_neg hi
 -- the columns after the change of the row
 have col : ∀ c, c < m.length → Cl.sum hp m.length (fun i => ent (hesA p k m r) i c * (if i = k then b k + f * b r else b i)) = x * b c := fun c hc => by
  rw [h.made c hc]
  refine Cl.sum_shift hp hr hk (fun e => hkr e.symm) ((ent m k c * f) * b r) ?_ ?_ fun i hi h1 h2 => ?_
  · rw [hbk r (fun e => hkr e.symm), hesA_ent h.tab hr hc, if_pos rfl, ← hf, Cl.sm_sm, ← Cl.add_sm]
    refine Cl.sm_cg ?_ _
    rw [Int.emod_emod_of_dvd _ (Int.dvd_refl p), Int.neg_mul, Int.one_mul, ← Int.sub_eq_add_neg, Int.mul_comm f]
  · rw [if_pos rfl, hesA_ent h.tab hr hc, if_neg hkr, Cl.sm_add, Cl.sm_sm]
  · rw [hbk i h2, hesA_ent h.tab hr hc, if_neg h1]
 refine ⟨fun i => if i = k then b k + f * b r else b i, by rw [t2]; exact t1, fun c hc => ?_, fun W w0 w1 w2 w3 z => ?_⟩
 · rw [t2] at hc ⊢
   by_cases e : c = k
   · subst e
     show x * (if c = c then b c + f * b r else b c) = _
     rw [if_pos rfl, Cl.mul_add, Cl.mul_sm, ← col c hc, ← col r hr, ← Cl.sum_sm, ← Cl.sum_plus]
     refine Cl.sum_congr hp _ fun i hi => ?_
     rw [hesR_ent hp h.tab hr hi hc, if_pos rfl, ← hf, Cl.sm_sm, ← Cl.add_sm]
     exact Cl.sm_cg (Int.emod_emod_of_dvd _ (Int.dvd_refl p)).symm _
   · show x * (if c = k then b k + f * b r else b c) = _
     rw [if_neg e, ← col c hc]
     refine Cl.sum_congr hp _ fun i hi => ?_
     rw [hesR_ent hp h.tab hr hi hc, if_neg e]
 · rw [t2] at w3
   refine h.all W w0 w1 w2 (fun i hi => ?_) z
   by_cases e : i = k
   · have hR := w3 r hr
     have hK := w3 k hk
     simp only [if_neg (fun e => hkr (Eq.symm e))] at hR
     simp only [if_true] at hK
     have := w1 _ _ hK (w2 (-f) _ hR)
     rw [Cl.add_assoc, ← Cl.add_sm, Int.add_right_neg, Cl.zero_sm, Cl.add_zero] at this
     rw [e]; exact this
   · have := w3 i hi
     simp only [if_neg e] at this
     exact this
theorem Fit.ofRs (hp : 0 < p) {x : Cl p sq} {k : Nat} {m : List (List Int)} (hk : k < m.length) (h : ∃ b, Fit hp x m b) : ∀ j, k + 1 + j ≤ m.length → ∃ b, Fit hp x (hesRs p k m j) b
 | 0, _ => h
 | j + 1, hj => by
  obtain ⟨b, hb⟩ := Fit.ofRs hp hk h j (by omega)
  obtain ⟨b0, hb0⟩ := h
  obtain ⟨_, t2⟩ := hesRs_tab hp hb0.tab k j (by omega)
  exact hb.ofR hp (k := k) (r := k + 1 + j) (by rw [t2]; omega) (by rw [t2]; omega) (by omega)
theorem Cl.sum_trn (hp : 0 < p) {N i k : Nat} (hi : i < N) (hk : k < N) (f : Nat → Cl p sq) : Cl.sum hp N (fun q => f (trn i k q)) = Cl.sum hp N f := by
 by_cases hik : i = k
 · subst hik
   refine Cl.sum_congr hp _ fun q _ => ?_
   unfold trn
   by_cases h : q = i
   · rw [if_pos h, h]
   · rw [if_neg h, if_neg h]
 · refine Cl.sum_shift hp hi hk hik (f i + (-1 : Int) * f k) ?_ ?_ fun q _ h1 h2 => ?_
   · have e : trn i k i = k := by unfold trn; rw [if_pos rfl]
     rw [e, Cl.sm_add, Cl.sm_sm, show (-1 : Int) * -1 = 1 by rfl, Cl.one_sm, ← Cl.add_assoc, Cl.add_comm (f i), Cl.gone, Cl.add_comm, Cl.add_zero]
   · have e : trn i k k = i := by unfold trn; rw [if_neg (fun h => hik h.symm), if_pos rfl]
     rw [e, Cl.add_comm (f i), ← Cl.add_assoc, Cl.add_comm (f k), Cl.gone, Cl.add_comm, Cl.add_zero]
   · have e : trn i k q = q := by unfold trn; rw [if_neg h1, if_neg h2]
     rw [e]
theorem Fit.ofW (hp : 0 < p) {x : Cl p sq} {m : List (List Int)} {b : Nat → Cl p sq} (h : Fit hp x m b) {i k : Nat} (hi : i < m.length) (hk : k < m.length) : ∃ b', Fit hp x (hesW m i k) b' := by
 obtain ⟨t1, t2⟩ := hesW_tab hp h.tab hi hk
 refine ⟨fun c => b (trn i k c), by rw [t2]; exact t1, fun c hc => ?_, fun W w0 w1 w2 w3 z => ?_⟩
 · rw [t2] at hc ⊢
   rw [h.made _ (trn_lt hi hk hc), ← Cl.sum_trn hp hi hk]
   refine Cl.sum_congr hp _ fun q hq => ?_
   rw [hesW_ent h.tab hi hk hi hk hq]
 · rw [t2] at w3
   refine h.all W w0 w1 w2 (fun c hc => ?_) z
   have := w3 _ (trn_lt hi hk hc)
   simp only [trn_two] at this
   exact this
theorem Fit.ofTo (hp : 0 < p) {x : Cl p sq} {m : List (List Int)} (h : ∃ b, Fit hp x m b) : ∀ k, k + 1 < m.length ∨ k = 0 → ∃ b, Fit hp x (hesTo p m k) b
 | 0, _ => h
 | k + 1, hk => by
  obtain ⟨b, hb⟩ := Fit.ofTo hp h k (by omega)
  obtain ⟨b0, hb0⟩ := h
  obtain ⟨t1, t2⟩ := hesTo_tab hp hb0.tab k (by omega)
  show ∃ b, Fit hp x (hesS p (k + 1) (hesTo p m k)) b
  obtain ⟨M, hM⟩ : ∃ M, M = hesTo p m k := ⟨_, rfl⟩
  rw [← hM] at hb t1 t2 ⊢
  unfold hesS
  split
  · exact ⟨b, hb⟩
  · rename_i hne
    have hpb := pivOf_bound M (k + 1 - 1) (k + 1) (by omega)
    obtain ⟨b', hb'⟩ := hb.ofW hp (i := pivOf M (k + 1 - 1) (k + 1)) (k := k + 1) (by omega) (by omega)
    obtain ⟨u1, u2⟩ := hesW_tab hp hb.tab (i := pivOf M (k + 1 - 1) (k + 1)) (k := k + 1) (by omega) (by omega)
    exact Fit.ofRs hp (by rw [u2]; omega) ⟨b', hb'⟩ _ (by rw [u2]; omega)
theorem Fit.ofL (hp : 0 < p) {x : Cl p sq} {m : List (List Int)} {b : Nat → Cl p sq} (h : Fit hp x m b) : ∃ b', Fit hp x (hesL p m) b' := Fit.ofTo hp ⟨b, h⟩ _ (by omega)
/-- What a polynomial makes of a multivector. -/
def Cl.ev (hp : 0 < p) (x : Cl p sq) (L : List Int) : Cl p sq := Cl.sum hp L.length fun i => L.getD i 0 * Cl.pwr hp x i
theorem pwr_comm (hp : 0 < p) (x : Cl p sq) : ∀ k, x * Cl.pwr hp x k = Cl.pwr hp x k * x
 | 0 => by show x * Cl.one hp = Cl.one hp * x; rw [Cl.mul_one, Cl.one_mul]
 | k + 1 => by show x * (Cl.pwr hp x k * x) = Cl.pwr hp x k * x * x; rw [← Cl.mul_assoc, pwr_comm hp x k]
theorem ev_comm (hp : 0 < p) (x : Cl p sq) (L : List Int) : x * Cl.ev hp x L = Cl.ev hp x L * x := by
 unfold Cl.ev
 rw [Cl.mul_sumr, Cl.mul_suml]
 exact Cl.sum_congr hp _ fun i _ => by rw [Cl.mul_sm, Cl.sm_mul, pwr_comm]
theorem ev_more (hp : 0 < p) (x : Cl p sq) (L : List Int) (k : Nat) : Cl.sum hp (L.length + k) (fun i => L.getD i 0 * Cl.pwr hp x i) = Cl.ev hp x L := by
 induction k with
 | zero => rfl
 | succ k ih =>
  show Cl.sum hp (L.length + k) _ + L.getD (L.length + k) 0 * Cl.pwr hp x (L.length + k) = _
  rw [ih, show L.getD (L.length + k) 0 = 0 by rw [List.getD_eq_getElem?_getD, List.getElem?_eq_none (by omega)]; rfl, Cl.zero_sm, Cl.add_zero]
theorem ev_plus (hp : 0 < p) (x : Cl p sq) (L M : List Int) (k : Int) (h : M.length ≤ L.length) : Cl.ev hp x (plusL p L M k) = Cl.ev hp x L + k * Cl.ev hp x M := by
 obtain ⟨j, hj⟩ : ∃ j, L.length = M.length + j := ⟨L.length - M.length, by omega⟩
 rw [← ev_more hp x M j, ← hj]
 unfold Cl.ev
 rw [plusL_len, ← Cl.sum_sm, ← Cl.sum_plus]
 refine Cl.sum_congr hp _ fun i hi => ?_
 rw [plusL_getD _ _ hi, Cl.sm_sm, ← Cl.add_sm]
 exact Cl.sm_cg (Int.emod_emod_of_dvd _ (Int.dvd_refl p)) _
theorem Cl.sum_first (hp : 0 < p) (f : Nat → Cl p sq) : ∀ N, Cl.sum hp (N + 1) f = f 0 + Cl.sum hp N fun i => f (i + 1)
 | 0 => by show Cl.zero hp + f 0 = f 0 + Cl.zero hp; rw [Cl.add_comm]
 | N + 1 => by
  show Cl.sum hp (N + 1) f + f (N + 1) = f 0 + (Cl.sum hp N (fun i => f (i + 1)) + f (N + 1))
  rw [Cl.sum_first hp f N, Cl.add_assoc]
theorem ev_cons (hp : 0 < p) (x : Cl p sq) (L : List Int) : Cl.ev hp x (0 :: L) = x * Cl.ev hp x L := by
 unfold Cl.ev
 rw [List.length_cons, Cl.sum_first, zI, Cl.zero_sm, Cl.add_comm, Cl.add_zero, Cl.mul_sumr]
 refine Cl.sum_congr hp _ fun i _ => ?_
 rw [zH, Cl.mul_sm]
 show L.getD i 0 * (Cl.pwr hp x i * x) = _
 rw [pwr_comm]
/-- The polynomials. -/
theorem chTo_len (p : Int) (h : List (List Int)) : ∀ k, (chTo p h k).length = k + 1
 | 0 => rfl
 | k + 1 => by
  show (chTo p h k ++ [_]).length = _
  rw [List.length_append, chTo_len p h k]; rfl
theorem chTo_old (p : Int) (h : List (List Int)) {k j : Nat} (hj : j ≤ k) : (chTo p h k).getD j [] = (chTo p h j).getD j [] := by
 induction k with
 | zero => obtain rfl : j = 0 := by omega
           rfl
 | succ k ih =>
  rcases Nat.eq_or_lt_of_le hj with e | hlt
  · rw [e]
  · rw [← ih (by omega)]
    show (chTo p h k ++ [_]).getD j [] = _
    exact getD_app_left [] _ (by rw [chTo_len]; omega)
def chP (p : Int) (h : List (List Int)) (k : Nat) : List Int := (chTo p h k).getD k []
theorem chP_zero (p : Int) (h : List (List Int)) : chP p h 0 = [1] := rfl
theorem chP_succ (p : Int) (h : List (List Int)) (k : Nat) : chP p h (k + 1) = chN p h (chTo p h k) (k + 1) k := by
 unfold chP
 show (chTo p h k ++ [_]).getD (k + 1) [] = _
 have := getD_app_right ([] : List Int) (chTo p h k) [chN p h (chTo p h k) (k + 1) k] 0
 rw [chTo_len, Nat.add_zero] at this
 rw [this]; rfl
theorem chN_len (p : Int) (h L : List (List Int)) (k : Nat) : ∀ i, (chN p h L k i).length = (L.getD (k - 1) []).length + 1
 | 0 => by unfold chN; rw [plusL_len, List.length_cons]
 | i + 1 => by unfold chN; rw [plusL_len, chN_len p h L k i]
theorem chP_len (p : Int) (h : List (List Int)) : ∀ k, (chP p h k).length = k + 1
 | 0 => rfl
 | k + 1 => by
  rw [chP_succ, chN_len]
  show ((chTo p h k).getD k []).length + 1 = _
  have := chP_len p h k
  unfold chP at this; rw [this]
theorem chN_nums {p : Int} (hp : 0 < p) (h L : List (List Int)) (k i : Nat) : NumsL p (chN p h L k i) := by
 cases i <;> exact plusL_nums hp _ _ _
theorem chP_nums {p : Int} (h2 : 2 ≤ p) (h : List (List Int)) : ∀ k, NumsL p (chP p h k)
 | 0 => fun x hx => by rw [chP_zero] at hx; rw [List.mem_singleton.1 hx]; omega
 | k + 1 => by rw [chP_succ]; exact chN_nums (by omega) _ _ _ _
theorem chN_ev (hp : 0 < p) (x : Cl p sq) (h : List (List Int)) (k : Nat) : ∀ i, i ≤ k → Cl.ev hp x (chN p h (chTo p h k) (k + 1) i) =
    (x * Cl.ev hp x (chP p h k) + (-(ent h k k)) * Cl.ev hp x (chP p h k)) + Cl.sum hp i fun j => (-(chF p h (k + 1) (j + 1)) * ent h (k - (j + 1)) k) * Cl.ev hp x (chP p h (k - (j + 1)))
 | 0, _ => by
  show Cl.ev hp x (plusL p (0 :: (chTo p h k).getD k []) ((chTo p h k).getD k []) (-(ent h k k))) = _
  rw [ev_plus hp x _ _ _ (by rw [List.length_cons]; omega), ev_cons]
  show _ = _ + Cl.zero hp
  rw [Cl.add_zero]; rfl
 | i + 1, hi => by
  have e1 : (chTo p h k).getD (k + 1 - (i + 1) - 1) [] = chP p h (k - (i + 1)) := by
   rw [show k + 1 - (i + 1) - 1 = k - (i + 1) by omega]
   exact chTo_old p h (by omega)
  show Cl.ev hp x (plusL p (chN p h (chTo p h k) (k + 1) i) ((chTo p h k).getD (k + 1 - (i + 1) - 1) []) (-(chF p h (k + 1) (i + 1)) * ent h (k + 1 - (i + 1) - 1) (k + 1 - 1))) = _
  rw [e1, ev_plus hp x _ _ _ (by rw [chN_len, chP_len]; show _ ≤ ((chTo p h k).getD k []).length + 1; have := chP_len p h k; unfold chP at this; omega), chN_ev hp x h k i (by omega), show k + 1 - (i + 1) - 1 = k - (i + 1) by omega, Nat.add_sub_cancel, Cl.add_assoc]
  rfl
/-- The factors are products of the numbers below the diagonal. -/
def facH (h : List (List Int)) (i : Nat) : Nat → Int
 | 0 => 1
 | k + 1 => if i ≤ k then facH h i k * ent h (k + 1) k else 1
theorem facH_self (h : List (List Int)) (i : Nat) : facH h i i = 1 := by
 cases i with
 | zero => rfl
 | succ i => unfold facH; rw [if_neg (by omega)]
theorem facH_succ (h : List (List Int)) {i k : Nat} (hk : i ≤ k) : facH h i (k + 1) = facH h i k * ent h (k + 1) k := by
 show (if i ≤ k then facH h i k * ent h (k + 1) k else 1) = _
 rw [if_pos hk]
theorem facH_mul (h : List (List Int)) {i j k : Nat} (h1 : i ≤ j) (h2 : j ≤ k) : facH h i j * facH h j k = facH h i k := by
 induction k with
 | zero =>
  obtain rfl : j = 0 := by omega
  obtain rfl : i = 0 := by omega
  rfl
 | succ k ih =>
  rcases Nat.lt_or_ge k j with hlt | hge
  · obtain rfl : j = k + 1 := by omega
    rw [facH_self, Int.mul_one]
  · rw [facH_succ h hge, facH_succ h (by omega), ← Int.mul_assoc, ih hge]
theorem facH_zero (h : List (List Int)) {i j k : Nat} (h1 : i < j) (h2 : j ≤ k) (h0 : ent h j (j - 1) = 0) : facH h i k = 0 := by
 obtain ⟨j, rfl⟩ : ∃ m, j = m + 1 := ⟨j - 1, by omega⟩
 rw [← facH_mul h (show i ≤ j + 1 by omega) h2, facH_succ h (by omega), show ent h (j + 1) j = 0 from h0, Int.mul_zero, Int.zero_mul]
theorem chF_fac (p : Int) (h : List (List Int)) (k : Nat) : ∀ i, i ≤ k → chF p h (k + 1) i % p = facH h (k - i) k % p
 | 0, _ => by rw [Nat.sub_zero, facH_self]; rfl
 | i + 1, hi => by
  show (chF p h (k + 1) i * ent h (k + 1 - (i + 1)) (k + 1 - (i + 1) - 1)) % p % p = _
  rw [Int.emod_emod_of_dvd _ (Int.dvd_refl p), Int.mul_emod, chF_fac p h k i (by omega), ← Int.mul_emod, ← facH_mul h (show k - (i + 1) ≤ k - i by omega) (show k - i ≤ k by omega)]
  have e : facH h (k - (i + 1)) (k - i) = ent h (k + 1 - (i + 1)) (k + 1 - (i + 1) - 1) := by
   rw [show k - i = (k - (i + 1)) + 1 by omega, facH_succ h (Nat.le_refl _), facH_self, Int.one_mul, show k - (i + 1) + 1 = k + 1 - (i + 1) by omega, show k - (i + 1) = k + 1 - (i + 1) - 1 by omega]
  rw [e, Int.mul_comm]
theorem neg_cgr {a b p : Int} (h : a % p = b % p) : (-a) % p = (-b) % p := by
 rw [show -a = 0 - a by omega, show -b = 0 - b by omega, Int.sub_emod, h, ← Int.sub_emod]
/-- Turned round: the sum over what is above the diagonal. -/
theorem chP_ev (hp : 0 < p) (x : Cl p sq) (h : List (List Int)) (k : Nat) : Cl.ev hp x (chP p h (k + 1)) = x * Cl.ev hp x (chP p h k) + (-1 : Int) * Cl.sum hp (k + 1) fun l => (facH h l k * ent h l k) * Cl.ev hp x (chP p h l) := by
 have rev : ∀ (f : Nat → Cl p sq) (N : Nat), Cl.sum hp N f = Cl.sum hp N fun i => f (N - (i + 1)) := fun f N => by
  induction N generalizing f with
  | zero => rfl
  | succ N ih =>
   rw [Cl.sum_first hp f N, ih]
   show _ = Cl.sum hp N _ + f (N + 1 - (N + 1))
   rw [Nat.sub_self, Cl.add_comm]
   congr 1
   exact Cl.sum_congr hp _ fun i hi => by rw [show N + 1 - (i + 1) = N - (i + 1) + 1 by omega]
 rw [chP_succ, chN_ev hp x h k k (Nat.le_refl _), Cl.add_assoc]
 congr 1
 show _ = (-1 : Int) * (Cl.sum hp k (fun l => (facH h l k * ent h l k) * Cl.ev hp x (chP p h l)) + (facH h k k * ent h k k) * Cl.ev hp x (chP p h k))
 rw [facH_self, Int.one_mul, Cl.sm_add, Cl.sm_sm, Int.neg_mul, Int.one_mul, Cl.add_comm]
 congr 1
 rw [rev fun l => (facH h l k * ent h l k) * Cl.ev hp x (chP p h l), ← Cl.sum_sm]
 refine Cl.sum_congr hp _ fun j hj => ?_
 rw [Cl.sm_sm]
 refine Cl.sm_cg ?_ _
 rw [Int.neg_mul, Int.neg_mul, Int.one_mul]
 have e := chF_fac p h k (j + 1) (by omega)
 have e2 : (chF p h (k + 1) (j + 1) * ent h (k - (j + 1)) k) % p = (facH h (k - (j + 1)) k * ent h (k - (j + 1)) k) % p := by
  rw [Int.mul_emod, e, ← Int.mul_emod]
 rw [neg_cgr e2]
end
section
variable {p : Int} {sq : List Int}
theorem Fit.col (hp : 0 < p) {x : Cl p sq} {h : List (List Int)} {b : Nat → Cl p sq} (hf : Fit hp x h b) (hlow : ∀ c r, c + 1 < r → r < h.length → ent h r c = 0) {k : Nat} (hk : k < h.length) :
    x * b k = (Cl.sum hp (k + 1) fun l => ent h l k * b l) + ent h (k + 1) k * b (k + 1) := by
 rw [hf.made k hk]
 have cut : ∀ d, Cl.sum hp (k + 1 + 1 + d) (fun l => ent h l k * b l) = Cl.sum hp (k + 1 + 1) fun l => ent h l k * b l := fun d => by
  induction d with
  | zero => rfl
  | succ d ih =>
   show Cl.sum hp (k + 1 + 1 + d) _ + ent h (k + 1 + 1 + d) k * b (k + 1 + 1 + d) = _
   rw [ih]
   have e : ent h (k + 1 + 1 + d) k = 0 := by
    by_cases hl : k + 1 + 1 + d < h.length
    · exact hlow k _ (by omega) hl
    · unfold ent
      rw [List.getD_eq_getElem?_getD (l := h), List.getElem?_eq_none (by omega)]; rfl
   rw [e, Cl.zero_sm, Cl.add_zero]
 rcases Nat.lt_or_ge (k + 1) h.length with hl | hl
 · obtain ⟨d, hd⟩ : ∃ d, h.length = k + 1 + 1 + d := ⟨h.length - (k + 1 + 1), by omega⟩
   rw [hd]; exact cut d
 · have e : h.length = k + 1 := by omega
   have e0 : ent h (k + 1) k = 0 := by
    unfold ent
    rw [List.getD_eq_getElem?_getD (l := h), List.getElem?_eq_none (by omega)]; rfl
   rw [e, e0, Cl.zero_sm, Cl.add_zero]
/-- Where the form falls apart. -/
def BrkH (h : List (List Int)) (j : Nat) : Prop := j = 0 ∨ ent h j (j - 1) = 0
theorem BrkH.fac {h : List (List Int)} {j l k : Nat} (hb : BrkH h j) (h1 : l < j) (h2 : j ≤ k) : facH h l k = 0 := by
 rcases hb with rfl | h0
 · omega
 · exact facH_zero h h1 h2 h0
theorem BrkH.last {h : List (List Int)} : ∀ m, 0 < m → ∃ j, j < m ∧ BrkH h j ∧ ∀ i, j < i → i < m → ¬ BrkH h i
 | 0, h0 => by omega
 | 1, _ => ⟨0, by omega, Or.inl rfl, fun i h1 h2 => by omega⟩
 | m + 2, _ => by
  by_cases hb : BrkH h (m + 1)
  · exact ⟨m + 1, by omega, hb, fun i h1 h2 => by omega⟩
  · obtain ⟨j, h1, h2, h3⟩ := BrkH.last (h := h) (m + 1) (by omega)
    refine ⟨j, by omega, h2, fun i h4 h5 => ?_⟩
    rcases Nat.lt_or_ge i (m + 1) with hl | hl
    · exact h3 i h4 hl
    · obtain rfl : i = m + 1 := by omega
      exact hb
theorem ham_part (hP : isP p = true) (hp : 0 < p) {x : Cl p sq} {h : List (List Int)} {b : Nat → Cl p sq} (hf : Fit hp x h b) (hlow : ∀ c r, c + 1 < r → r < h.length → ent h r c = 0) :
    ∀ N m, m ≤ N → m ≤ h.length → BrkH h m → ∀ i, i < m → Cl.ev hp x (chP p h m) * b i = Cl.zero hp
 | 0, m, h1, _, _, i, hi => by omega
 | N + 1, m, h1, hm, hB, i, hi => by
  obtain ⟨j, hj, hbj, hno⟩ := BrkH.last (h := h) m (by omega)
  have ih := ham_part hP hp hf hlow N j (by omega) (by omega) hbj
  have smz : ∀ k : Int, (k * Cl.zero hp : Cl p sq) = Cl.zero hp := fun k => Cl.sm_nul hp k
  -- the polynomials from j on kill what is before j
  have A : ∀ k, j ≤ k → ∀ l, j ≤ l → l ≤ k → ∀ i, i < j → Cl.ev hp x (chP p h l) * b i = Cl.zero hp := by
   intro k
   induction k with
   | zero => intro hk l h2 h3 i hi; omega
   | succ k ihk =>
    intro hk l h2 h3 i hi
    rcases Nat.lt_or_ge l (k + 1) with hl | hl
    · exact ihk (by omega) l h2 (by omega) i hi
    · obtain rfl : l = k + 1 := by omega
      rcases Nat.eq_or_lt_of_le h2 with e | hjk
      · rw [← e]; exact ih i hi
      · rw [chP_ev, Cl.add_mul, Cl.mul_assoc, ihk (by omega) k (by omega) (Nat.le_refl _) i hi, Cl.mul_zero, Cl.sm_mul, Cl.mul_suml, Cl.sum_zero hp, smz, Cl.add_zero]
        intro q hq
        rcases Nat.lt_or_ge q j with hl | hl
        · rw [hbj.fac hl (show j ≤ k by omega), Int.zero_mul, Cl.sm_mul, Cl.zero_sm]
        · rw [Cl.sm_mul, ihk (by omega) q hl (by omega) i hi, smz]
  -- what they make of the first one
  have C : ∀ k, j ≤ k → k ≤ m → ∀ l, j ≤ l → l ≤ k → Cl.ev hp x (chP p h l) * b j = facH h j l * (Cl.ev hp x (chP p h j) * b l) := by
   intro k
   induction k with
   | zero =>
    intro h2 _ l h3 h4
    obtain rfl : l = j := by omega
    rw [facH_self, Cl.one_sm]
   | succ k ihk =>
    intro h2 hkm l h3 h4
    rcases Nat.lt_or_ge l (k + 1) with hl | hl
    · exact ihk (by omega) (by omega) l h3 (by omega)
    · obtain rfl : l = k + 1 := by omega
      rcases Nat.eq_or_lt_of_le h3 with e | hjk
      · rw [← e, facH_self, Cl.one_sm]
      · have hc := hf.col hp hlow (show k < h.length by omega)
        have hq : ∀ q, q < k + 1 → ((facH h q k * ent h q k) * Cl.ev hp x (chP p h q)) * b j = (facH h j k * ent h q k) * (Cl.ev hp x (chP p h j) * b q) := fun q hq => by
         rw [Cl.sm_mul]
         rcases Nat.lt_or_ge q j with hl | hl
         · rw [hbj.fac hl (show j ≤ k by omega), Int.zero_mul, Cl.zero_sm, ih q hl, smz]
         · rw [ihk (by omega) (by omega) q hl (by omega), Cl.sm_sm, Int.mul_comm (facH h q k), Int.mul_assoc, Int.mul_comm (facH h q k), facH_mul h hl (by omega), Int.mul_comm]
        rw [chP_ev, Cl.add_mul, Cl.mul_assoc, ihk (by omega) (by omega) k (by omega) (Nat.le_refl _), Cl.mul_sm, ← Cl.mul_assoc, ev_comm, Cl.mul_assoc, hc, Cl.mul_add, Cl.sm_mul, Cl.mul_suml, Cl.sum_congr hp _ hq]
        rw [Cl.mul_sumr, Cl.sm_add, ← Cl.sum_sm, ← Cl.sum_sm, Cl.add_comm, ← Cl.add_assoc, ← Cl.sum_plus]
        rw [Cl.sum_zero hp, Cl.add_comm, Cl.add_zero, Cl.mul_sm, Cl.sm_sm, facH_succ h (by omega)]
        intro q hq
        rw [Cl.sm_sm, Cl.mul_sm, Cl.sm_sm, ← Cl.add_sm]
        have e : -1 * (facH h j k * ent h q k) + facH h j k * ent h q k = 0 := by omega
        rw [e, Cl.zero_sm]
  -- what is killed
  have D0 : ∀ i, i < j → Cl.ev hp x (chP p h m) * b i = Cl.zero hp := A m (by omega) m (by omega) (Nat.le_refl _)
  have hm0 : ent h m (m - 1) = 0 := by
   rcases hB with e | e
   · omega
   · exact e
  have D1 : Cl.ev hp x (chP p h m) * b j = Cl.zero hp := by
   rw [C m (by omega) (Nat.le_refl _) m (by omega) (Nat.le_refl _), facH_zero h hj (Nat.le_refl _) hm0, Cl.zero_sm]
  have D : ∀ i, i < m → ∀ l, l ≤ i → Cl.ev hp x (chP p h m) * b l = Cl.zero hp := by
   intro i
   induction i with
   | zero =>
    intro _ l hl
    obtain rfl : l = 0 := by omega
    rcases Nat.eq_zero_or_pos j with e | e
    · rw [← e]; exact D1
    · exact D0 0 e
   | succ i ihi =>
    intro hi l hl
    rcases Nat.lt_or_ge l (i + 1) with hl2 | hl2
    · exact ihi (by omega) l (by omega)
    · obtain rfl : l = i + 1 := by omega
      rcases Nat.lt_or_ge j (i + 1) with hji | hji
      · have hne : ent h (i + 1) i ≠ 0 := fun e => hno (i + 1) hji hi (Or.inr e)
        have hsm : 0 ≤ ent h (i + 1) i ∧ ent h (i + 1) i < p := (hf.tab.row (show i + 1 < h.length by omega)).2.getD hp i
        have hne2 : ent h (i + 1) i % p ≠ 0 := by
         rw [Int.emod_eq_of_lt hsm.1 hsm.2]; exact hne
        refine Cl.none_of hP hp hne2 ?_
        have hc := hf.col hp hlow (show i < h.length by omega)
        have e1 : Cl.ev hp x (chP p h m) * (x * b i) = Cl.zero hp := by
         rw [← Cl.mul_assoc, ← ev_comm, Cl.mul_assoc, ihi (by omega) i (Nat.le_refl _), Cl.mul_zero]
        rw [hc, Cl.mul_add, Cl.mul_sumr, Cl.sum_zero hp, Cl.add_comm, Cl.add_zero, Cl.mul_sm] at e1
        · exact e1
        · intro q hq
          rw [Cl.mul_sm, ihi (by omega) q (by omega), smz]
      · rcases Nat.eq_or_lt_of_le hji with e | e
        · rw [e]; exact D1
        · exact D0 _ (by omega)
  exact D i hi i (Nat.le_refl _)
theorem ham (hP : isP p = true) (hp : 0 < p) {x : Cl p sq} {h : List (List Int)} {b : Nat → Cl p sq} (hf : Fit hp x h b) (hlow : ∀ c r, c + 1 < r → r < h.length → ent h r c = 0) : Cl.ev hp x (chP p h h.length) = Cl.zero hp := by
 have hB : BrkH h h.length := by
  refine Or.inr ?_
  unfold ent
  rw [List.getD_eq_getElem?_getD (l := h), List.getElem?_eq_none (by omega)]; rfl
 have key := ham_part hP hp hf hlow h.length h.length (Nat.le_refl _) (Nat.le_refl _) hB
 have := hf.all (fun z => Cl.ev hp x (chP p h h.length) * z = Cl.zero hp) (Cl.mul_zero hp _)
  (fun a c ha hc => by show _ * (a + c) = _; rw [Cl.mul_add, ha, hc, Cl.add_zero]) (fun k a ha => by show _ * (k * a) = _; rw [Cl.mul_sm, ha, Cl.sm_nul]) key (Cl.one hp)
 rw [Cl.mul_one] at this
 exact this
/-- The left matrix tells what the multivector makes of the blades. -/
theorem lm_fit (hp : 0 < p) (h2 : 2 ≤ p) (x : Cl p sq) : Fit hp x (lmL p sq sq.length x.l) (fun k => Cl.at_ hp k) := by
 have hT := lcol_tab h2 x
 have hl := lcol_len (p := p) (sq := sq) sq.length x.l
 have hml : (lmL p sq sq.length x.l).length = pw sq.length := transL_len hT (by rw [hl]; exact pw_pos _)
 have hmt : Tab p (pw sq.length) (lmL p sq sq.length x.l) := by have := transL_tab (p := p) hp hT; rwa [hl] at this
 refine ⟨by rw [hml]; exact hmt, fun k hk => ?_, fun W w0 w1 w2 w3 z => ?_⟩
 · rw [hml] at hk ⊢
   rw [Cl.at_sum hp (x * Cl.at_ hp k)]
   refine Cl.sum_congr hp _ fun i hi => Cl.sm_cg ?_ _
   have h1 : ent (lmL p sq sq.length x.l) i k = (x * Cl.at_ hp k : Cl p sq).co i := by
    unfold lmL
    refine (trans_at hT hl (pw_pos _) hi hk).trans ?_
    unfold ent lcolL
    rw [tab_getD hk, ← Cl.at_l hp h2 hk, ← Cl.mul_l]; rfl
   rw [h1]
 · rw [hml] at w3
   rw [Cl.at_sum hp z]
   exact Cl.sum_ind hp W w0 w1 _ _ fun i hi => w2 _ _ (w3 i hi)
theorem char_zero (hP : isP p = true) (hp : 0 < p) (x : Cl p sq) : Cl.ev hp x (charL p (lmL p sq sq.length x.l)) = Cl.zero hp ∧ (charL p (lmL p sq sq.length x.l)).length = pw sq.length + 1 ∧ NumsL p (charL p (lmL p sq sq.length x.l)) := by
 have h3 := isP_ge hP
 have h2 : 2 ≤ p := by omega
 have hT := lcol_tab h2 x
 have hl := lcol_len (p := p) (sq := sq) sq.length x.l
 have hml : (lmL p sq sq.length x.l).length = pw sq.length := transL_len hT (by rw [hl]; exact pw_pos _)
 have hf := lm_fit hp h2 x
 obtain ⟨b', hf'⟩ := hf.ofL hp
 have hlen := (hesL_tab hp hf.tab).2
 have hlow := hesL_low hP hf.tab
 have e : charL p (lmL p sq sq.length x.l) = chP p (hesL p (lmL p sq sq.length x.l)) (hesL p (lmL p sq sq.length x.l)).length := by
  unfold charL chP; rw [hlen]
 rw [e]
 refine ⟨ham hP hp hf' fun c r h4 h5 => hlow c r h4 (by omega), by rw [chP_len, hlen, hml], chP_nums h2 _ _⟩
end
end Go.Proofs.YtmkjdpnoloofjaaGreat
namespace Go.Proofs.YtmkjdpnoloofjaaGreat
open Go.RowKit
/-- The code of a space of at most four squares and multivectors. -/
def codeA (P : Int) (sq : List Int) (yss : List (List Int)) : Int := if codeM P sq yss = 0 then (if 4 < sq.length then 3 else 0) else codeM P sq yss
theorem codeA_zero {P : Int} {sq : List Int} {yss : List (List Int)} (h : codeA P sq yss = 0) : codeM P sq yss = 0 ∧ sq.length ≤ 4 := by
 unfold codeA at h
 by_cases h1 : codeM P sq yss = 0
 · rw [if_pos h1] at h
   by_cases h2 : 4 < sq.length
   · rw [if_pos h2] at h; omega
   · exact ⟨h1, by omega⟩
 · rw [if_neg h1] at h; exact absurd h h1
theorem codeA_mk {P : Int} {sq : List Int} {yss : List (List Int)} (h : codeM P sq yss = 0) (h4 : sq.length ≤ 4) : codeA P sq yss = 0 := by
 unfold codeA; rw [if_pos h, if_neg (by omega)]
set_option maxHeartbeats 800000 in
set_option maxRecDepth 8000 in
theorem checkAlgebra_any (P : Int) (A B : Option Addr) (n c m d : Nat) (sq : List Int) (ms : List (List Int)) (w : World) (hn : n ≤ 1048576) (hm : m ≤ 1048576) (ha : Rd w A n (ints sq)) (hb : RdII w B m ms) (hms : ∀ ys ∈ ms, ys.length ≤ 1048576) :
    Calls Tryz.prog 133 #[.agg #[.int .i64 P, .slice A n c], .slice B m d] w fun e w' => e = .returned (.int .i64 (codeA P sq ms)) ∧ Below w.heap.size w w' := by
 have hB0 : Below w.heap.size w (w.alloc (.cells #[.int .i64 P, .slice A n c] 26)) := zG.alloc (Nat.le_refl _) _
 have k0 : Blk (w.alloc (.cells #[.int .i64 P, .slice A n c] 26)) w.heap.size 26 #[.int .i64 P, .slice A n c] := Blk.new _ _ _
 have hcm := checkMultis_any P A B n c m d sq ms _ hn hm (ha.below hB0) (hb.below hB0) hms
 have hsl := ha.lenI
 have HL := Lib.hid hsl
 clear hsl
 by_cases e1 : codeM P sq ms = 0
 · rw [e1] at hcm
   have E1 := Lib.hid e1
   clear e1
   by_cases h4 : 4 < n
   · have d4 : decide (4 < (n : Int)) = true := by simp; omega
     go_enter Tryz.func133, Tryz.ntmps133
     go_wp2_with fail
     refine hcm.mono ?_
     rintro e w1 ⟨rfl, hb1⟩
     have hB1 := hB0.trans (hb1.mono (by simp))
     have k1 := k0.below hb1 k0.lt
     clear k0
     obtain ⟨q0, q1⟩ := k1.two
     go_wp2_with fail
     refine (dim_any _ _ _ _ _).mono ?_
     rintro e w2 ⟨rfl, hb2⟩
     go_wp2
     go_ret
     exact ⟨ret_int (by unfold codeA; rw [if_pos E1.out, HL.out, if_pos h4]), hB1.trans (hb2.mono hB1.size)⟩
   · have d4 : decide (4 < (n : Int)) = false := by simp; omega
     go_enter Tryz.func133, Tryz.ntmps133
     go_wp2_with fail
     refine hcm.mono ?_
     rintro e w1 ⟨rfl, hb1⟩
     have hB1 := hB0.trans (hb1.mono (by simp))
     have k1 := k0.below hb1 k0.lt
     clear k0
     obtain ⟨q0, q1⟩ := k1.two
     go_wp2_with fail
     refine (dim_any _ _ _ _ _).mono ?_
     rintro e w2 ⟨rfl, hb2⟩
     go_wp2
     go_ret
     exact ⟨ret_int (by unfold codeA; rw [if_pos E1.out, HL.out, if_neg h4]), hB1.trans (hb2.mono hB1.size)⟩
 · obtain ⟨r, hr⟩ : ∃ r, r = codeM P sq ms := ⟨_, rfl⟩
   have HR := Lib.hid hr
   have E1 := Lib.hid e1
   have b0 : (r != 0) = true := code_ne (by rw [hr]; exact e1)
   have b1 : (r == 0) = false := by simpa using b0
   rw [← hr] at hcm
   clear hr e1
   go_enter Tryz.func133, Tryz.ntmps133
   go_wp2_with fail
   refine hcm.mono ?_
   rintro e w1 ⟨rfl, hb1⟩
   have k1 := k0.below hb1 k0.lt
   obtain ⟨q0, q1⟩ := k1.two
   clear k0
   go_wp2
   go_ret
   exact ⟨ret_int (by unfold codeA; rw [if_neg E1.out, HR.out]), hB0.trans (hb1.mono (by simp))⟩
set_option maxHeartbeats 800000 in
set_option maxRecDepth 8000 in
theorem l09Code_any (P : Int) (A B : Option Addr) (n c m d : Nat) (sq : List Int) (ms : List (List Int)) (w : World) (hn : n ≤ 1048576) (hm : m ≤ 1048576) (ha : Rd w A n (ints sq)) (hb : RdII w B m ms) (hms : ∀ ys ∈ ms, ys.length ≤ 1048576) :
    Calls Tryz.prog 137 #[.agg #[.int .i64 P, .slice A n c], .slice B m d] w fun e w' => e = .returned (.int .i64 (codeA P sq ms)) ∧ Below w.heap.size w w' := by
 have hB0 : Below w.heap.size w (w.alloc (.cells #[.int .i64 P, .slice A n c] 26)) := zG.alloc (Nat.le_refl _) _
 have k0 : Blk (w.alloc (.cells #[.int .i64 P, .slice A n c] 26)) w.heap.size 26 #[.int .i64 P, .slice A n c] := Blk.new _ _ _
 have hcm := l04Code_any P A B n c m d sq ms _ hn hm (ha.below hB0) (hb.below hB0) hms
 have hsl := ha.lenI
 have HL := Lib.hid hsl
 clear hsl
 by_cases e1 : codeM P sq ms = 0
 · rw [e1] at hcm
   have E1 := Lib.hid e1
   clear e1
   by_cases h4 : 4 < n
   · have d4 : decide (4 < (n : Int)) = true := by simp; omega
     go_enter Tryz.func137, Tryz.ntmps137
     go_wp2_with fail
     refine hcm.mono ?_
     rintro e w1 ⟨rfl, hb1⟩
     have hB1 := hB0.trans (hb1.mono (by simp))
     have k1 := k0.below hb1 k0.lt
     clear k0
     obtain ⟨q0, q1⟩ := k1.two
     go_wp2
     go_ret
     exact ⟨ret_int (by unfold codeA; rw [if_pos E1.out, HL.out, if_pos h4]), hB1⟩
   · have d4 : decide (4 < (n : Int)) = false := by simp; omega
     go_enter Tryz.func137, Tryz.ntmps137
     go_wp2_with fail
     refine hcm.mono ?_
     rintro e w1 ⟨rfl, hb1⟩
     have hB1 := hB0.trans (hb1.mono (by simp))
     have k1 := k0.below hb1 k0.lt
     clear k0
     obtain ⟨q0, q1⟩ := k1.two
     go_wp2
     go_ret
     exact ⟨ret_int (by unfold codeA; rw [if_pos E1.out, HL.out, if_neg h4]), hB1⟩
 · obtain ⟨r, hr⟩ : ∃ r, r = codeM P sq ms := ⟨_, rfl⟩
   have HR := Lib.hid hr
   have E1 := Lib.hid e1
   have b0 : (r != 0) = true := code_ne (by rw [hr]; exact e1)
   have b1 : (r == 0) = false := by simpa using b0
   rw [← hr] at hcm
   clear hr e1
   go_enter Tryz.func137, Tryz.ntmps137
   go_wp2_with fail
   refine hcm.mono ?_
   rintro e w1 ⟨rfl, hb1⟩
   have k1 := k0.below hb1 k0.lt
   obtain ⟨q0, q1⟩ := k1.two
   clear k0
   go_wp2
   go_ret
   exact ⟨ret_int (by unfold codeA; rw [if_neg E1.out, HR.out]), hB0.trans (hb1.mono (by simp))⟩
set_option maxHeartbeats 6400000 in
set_option maxRecDepth 8000 in
theorem leftMatrix_any (P : Int) (A : Option Addr) (n c : Nat) (sq : List Int) (X : Option Addr) (cx : Nat) (xs : List Int) (w : World) (hp : 2 ≤ P) (hp2 : P ≤ 13) (hn : n ≤ 6) (ha : Rd w A n (ints sq)) (hs : NumsL P sq) (hx : Rd w X (pw n) (ints xs)) (hxs : NumsL P xs) (hcx : pw n ≤ cx) :
    Calls Tryz.prog 135 #[.agg #[.int .i64 P, .slice A n c], .slice X (pw n) cx] w fun e w' => ∃ (A' : Option Addr) (c' : Nat), e = .returned (.slice A' (pw n) c') ∧ MkII w w' A' (pw n) c' (transL (lcolL P sq n xs)) := by
 have hB0 : Below w.heap.size w (w.alloc (.cells #[.int .i64 P, .slice A n c] 26)) := zG.alloc (Nat.le_refl _) _
 have k0 : Blk (w.alloc (.cells #[.int .i64 P, .slice A n c] 26)) w.heap.size 26 #[.int .i64 P, .slice A n c] := Blk.new _ _ _
 have HCT : Hid (Tab P (pw n) (lcolL P sq n xs)) := Lib.hid (by
     have hsl := ha.lenI
     subst hsl
     exact lcol_tab hp ⟨xs, hx.lenI, hxs, by omega⟩)
 have HXL := Lib.hid hx.lenI
 have HXS := Lib.hid hxs
 have HS := Lib.hid hs
 have hpw : pw n ≤ 64 := pw_le hn
 have hpn := pw_pos n
 have hB4 := hB0.alloc hB0.size (.cells #[] 24)
 have k4 := k0.alloc (.cells #[] 24)
 have hM4 : MkII w ((w.alloc (.cells #[.int .i64 P, .slice A n c] 26)).alloc (.cells #[] 24)) (some ⟨(w.alloc (.cells #[.int .i64 P, .slice A n c] 26)).heap.size, 0, none⟩) 0 0 [] := MkII.empty hB0
 have hz3 : (w.alloc (.cells #[.int .i64 P, .slice A n c] 26)).heap.size < ((w.alloc (.cells #[.int .i64 P, .slice A n c] 26)).alloc (.cells #[] 24)).heap.size := by simp
 have hz1 : (w.alloc (.cells #[.int .i64 P, .slice A n c] 26)).heap.size = w.heap.size + 1 := by simp
 rw [hz1] at hM4 hz3
 clear hz1
 obtain ⟨q0, q1⟩ := k4.two
 have hbl := blades_any P A n c ((w.alloc (.cells #[.int .i64 P, .slice A n c] 26)).alloc (.cells #[] 24)) (by omega)
 clear hxs hs
 go_enter Tryz.func135, Tryz.ntmps135
 go_wp2_with fail
 obtain ⟨w4, hw4⟩ : ∃ W, W = (w.alloc (.cells #[.int .i64 P, .slice A n c] 26)).alloc (.cells #[] 24) := ⟨_, rfl⟩
 rw [← hw4] at hbl hM4 hB4 k4 hz3 q0 q1 ⊢
 refine hbl.mono ?_
 rintro e w5 ⟨U, cU, rfl, hU⟩
 have hM5 := hM4.below hU.b
 have k5 := k4.below hU.b k4.lt
 have hKp : Keeps w4 w5 w5 (.slice (some ⟨w.heap.size + 1, 0, none⟩) 0 0) := ⟨Nat.le_refl _, fun _ _ _ => rfl, fun gb e => .inl (lt_of_own e hz3)⟩
 clear hbl hM4 hB4 k4 hz3 hw4 q0 q1 k0
 go_wp2
 go_loopw [5, 12] (fun out i wr => ∃ (k : Nat) (A' : Option Addr) (c' : Nat), k ≤ pw n ∧ i = .int .i64 k ∧ out = .slice A' k c' ∧ MkII w wr A' k c' (tab k fun m => mulL P sq xs (unitRow (pw n) m)) ∧ Keeps w4 w5 wr (.slice A' k c') ∧ Blk wr w.heap.size 26 #[.int .i64 P, .slice A n c]) (fun _ i _ => pw n - (intOf i).toNat)
 case atStart => exact ⟨0, _, _, by omega, rfl, rfl, by simpa [tab] using hM5, hKp, k5⟩
 case round =>
  obtain ⟨k, A', c', hk, rfl, rfl, hM, hKp', k6⟩ := hrel
  clear hM5 hKp k5
  obtain ⟨q0, q1⟩ := k6.two
  by_cases hlt : k < pw n
  · obtain ⟨gu, ou, rfl, hxk, A1, c1, hcu, hru, hcc⟩ := (hU.keep hKp'.2.1).at_ hlt
    have hrow := unitM_get (pw n) k hxk
    rw [hrow, unitRow_len] at hru hcu hcc
    have hAl : Below wr.heap.size wr (wr.alloc (.cells #[.slice X (pw n) cx, .slice A1 (pw n) c1] 24)) := zG.alloc (Nat.le_refl _) _
    have hBr := hM.b.trans (hAl.mono hM.b.size)
    have hcall := times_any P A n c sq (some ⟨wr.heap.size, 0, none⟩) 2 2 [xs, unitRow (pw n) k] (wr.alloc (.cells #[.slice X (pw n) cx, .slice A1 (pw n) c1] 24)) (by omega) hp2 hn (by omega) (ha.below hBr) HS.out (rdII_two (Blk.new wr 24 _) (hx.below hBr) (hru.below hAl) hcx hcc) (all_two ⟨HXS.out, HXL.out⟩ ⟨unitRow_nums hp _ k, unitRow_len _ k⟩)
    rw [timesL_two P sq n xs (unitRow (pw n) k) HXL.out HXS.out] at hcall
    have HM := Lib.hid hM
    have HK := Lib.hid hKp'
    have HAL := Lib.hid hAl
    have hcc' : Hid ((tab (k + 1) fun m => mulL P sq xs (unitRow (pw n) m)) = (tab k fun m => mulL P sq xs (unitRow (pw n) m)) ++ [mulL P sq xs (unitRow (pw n) k)]) := Lib.hid (by rw [tab_succ])
    have i1 : (0 : Int) ≤ (k : Int) := by omega
    have i2 : (k : Int) < (pw n : Int) := by omega
    clear hM hru hrow hKp' hAl hBr
    go_wp2_with fail
    refine hcall.mono ?_
    rintro e w7 ⟨A7, c7, rfl, hM7⟩
    have hM7' := hM7.after HAL.out
    have k7 := k6.below hM7'.b k6.lt
    clear hcall q0 q1 hM7
    go_wp2_with (at_builtin; refine wpList_appRowG w wr _ rfl _ _ rfl A' k c' _ A7 (pw n) c7 _ HM.out hM7' (by omega) rfl ?_ ?_; (go_simp); intro A8 c8 w8 hM8 hg8 hat8)
    have k8 := k7.grown hg8 ((HM.out.below hM7'.b).ne_blk k7 (by decide))
    have hK8 := HK.out.step (n' := k + 1) (c' := c8) hM7'.b hg8 hat8
    clear hg8 hat8 k7 k6
    go_roundw
    case rel => exact ⟨k + 1, A8, c8, by omega, by go_num, rfl, by rw [hcc'.out]; exact hM8, hK8, k8⟩
    case measure => simp [intOf]; omega
  · obtain rfl : k = pw n := by omega
    have htr := transpose_any P A' (pw n) c' (lcolL P sq n xs) (pw n) wr (by omega) (by omega) (by omega) hM.rd HCT.out
    go_wp2_with fail
    refine htr.mono ?_
    rintro e w7 ⟨A7, c7, rfl, hM7⟩
    have hM7' := hM7.after hM.b
    go_wp2
    go_ret
    exact ⟨_, _, rfl, hM7'⟩
/-- The root of a vector's norm, or a number that is not above 0. -/
def vrtL (P : Int) (sq : List Int) (n : Nat) (vs : List Int) : Int := rootI (rootF P (pairL P sq (partL n vs) (partL n vs)) P.toNat 0)
/-- The idempotent of a vector. -/
def vidL (P : Int) (sq : List Int) (n : Nat) (vs : List Int) : List Int := plusL P (scaleL P (bladeL n 0) (invF P 2)) vs (invF P 2 * invF P (vrtL P sq n vs) % P)
def vidR (P : Int) (sq vs : List Int) : List Int × Int := if codeA P sq [vs] = 0 then (if decide (vs = partG vs 1) && decide (0 < vrtL P sq sq.length vs) then (vidL P sq sq.length vs, 0) else ([], 5)) else ([], codeA P sq [vs])
theorem vidR_ok {P : Int} {sq vs : List Int} (h : codeA P sq [vs] = 0) (h1 : decide (vs = partG vs 1) = true) (h2 : 0 < vrtL P sq sq.length vs) : vidR P sq vs = (vidL P sq sq.length vs, 0) := by unfold vidR; rw [if_pos h, h1, decide_eq_true h2]; rfl
theorem vidR_no {P : Int} {sq vs : List Int} (h : codeA P sq [vs] = 0) (h1 : (decide (vs = partG vs 1) && decide (0 < vrtL P sq sq.length vs)) = false) : vidR P sq vs = ([], 5) := by unfold vidR; rw [if_pos h, h1]; rfl
theorem vidR_bad {P : Int} {sq vs : List Int} (h : ¬ codeA P sq [vs] = 0) : vidR P sq vs = ([], codeA P sq [vs]) := by unfold vidR; rw [if_neg h]
theorem vrt_small {P : Int} (hp : 2 ≤ P) (sq : List Int) (n : Nat) (vs : List Int) : vrtL P sq n vs < P := by
 unfold vrtL
 cases hr : rootF P (pairL P sq (partL n vs) (partL n vs)) P.toNat 0 with
 | none => simp only [rootI]; omega
 | some r => have := (rootF_spec P _ _ _ _ hr).2.1; simp only [rootI]; omega
set_option maxHeartbeats 6400000 in
set_option maxRecDepth 8000 in
theorem specVectorIdempotent_any (P : Int) (A : Option Addr) (n c : Nat) (sq : List Int) (X : Option Addr) (m cx : Nat) (xs : List Int) (w : World) (hn : n ≤ 1048576) (hm : m ≤ 1048576) (ha : Rd w A n (ints sq)) (hx : Rd w X m (ints xs)) (hcx : m ≤ cx) :
    Calls Tryz.prog 70 #[.agg #[.int .i64 P, .slice A n c], .slice X m cx] w fun e w' => ∃ (A' : Option Addr) (k c' : Nat), e = .returned (.tuple #[.slice A' k c', .int .i64 (vidR P sq xs).2]) ∧ MkI w w' A' k c' (vidR P sq xs).1 := by
 have hB0 : Below w.heap.size w (w.alloc (.cells #[.int .i64 P, .slice A n c] 26)) := zG.alloc (Nat.le_refl _) _
 have k0 : Blk (w.alloc (.cells #[.int .i64 P, .slice A n c] 26)) w.heap.size 26 #[.int .i64 P, .slice A n c] := Blk.new _ _ _
 have hB1 : Below w.heap.size w ((w.alloc (.cells #[.int .i64 P, .slice A n c] 26)).alloc (.cells #[.slice X m cx] 24)) := hB0.alloc (by simp) _
 have k1 : Blk ((w.alloc (.cells #[.int .i64 P, .slice A n c] 26)).alloc (.cells #[.slice X m cx] 24)) w.heap.size 26 #[.int .i64 P, .slice A n c] := k0.alloc _
 have hreg := l09Code_any P A (some ⟨w.heap.size + 1, 0, none⟩) n c 1 1 sq [xs] ((w.alloc (.cells #[.int .i64 P, .slice A n c] 26)).alloc (.cells #[.slice X m cx] 24)) hn (by omega) (ha.below hB1) (rdII_one' (Blk.newAt3 (by simp)) (hx.below hB1) hcx) (all_one (by rw [hx.lenI]; exact hm))
 by_cases hr0 : codeA P sq [xs] = 0
 · rw [hr0] at hreg
   obtain ⟨hcM, h4⟩ := codeA_zero hr0
   obtain ⟨HP, hp, hp2, hd1, hd2, hs, hms⟩ := codeM_spec3 hcM
   obtain ⟨hx1, hxs⟩ := hms xs (by simp)
   have hsl := ha.lenI
   have hmn : m = pw n := by rw [← hx.lenI, hx1, hsl]
   subst hmn
   have hn4 : n ≤ 4 := by omega
   have hpw : pw n ≤ 16 := pw_le hn4
   have hpn := pw_pos n
   have hp3 := (isP_ge HP).1
   have HS := Lib.hid hs
   have HXS := Lib.hid hxs
   have HPP := Lib.hid HP
   have HR0 := Lib.hid hr0
   have HSL := Lib.hid hsl
   have HLN : Hid (NumsL P (partL n xs)) := Lib.hid (partL_nums (by omega) n xs hxs)
   obtain ⟨rt, hrt⟩ : ∃ r, r = vrtL P sq n xs := ⟨_, rfl⟩
   have HRT : Hid (rootI (rootF P (pairL P sq (partL n xs) (partL n xs)) P.toNat 0) = rt) := Lib.hid hrt.symm
   have HRE := Lib.hid hrt
   have HRS : Hid (rt < P) := Lib.hid (by rw [hrt]; exact vrt_small hp sq n xs)
   clear hsl hs hxs hx1 hms hd1 hd2 h4 hcM hr0 HP hrt
   go_enter Tryz.func70, Tryz.ntmps70
   go_wp2_with fail
   refine hreg.mono ?_
   rintro e w2 ⟨rfl, hb2⟩
   have hB2 := hB1.trans (hb2.mono hB1.size)
   have k2 := k1.below hb2 k1.lt
   clear k0 k1 hreg hb2 hB0 hB1
   obtain ⟨q0, q1⟩ := k2.two
   go_wp2_with fail
   refine (l04List_any P A n c X cx xs w2 (by omega) (hx.below hB2)).mono ?_
   rintro e w3 ⟨AL, cL, rfl, hL3⟩
   have hB3 := hB2.trans (hL3.b.mono hB2.size)
   have k3 := k2.below hL3.b k2.lt
   have HB3 := Lib.hid hB3
   have HL3 : Hid (MkI w2 w3 AL n cL (partL n xs)) := Lib.hid hL3
   clear k2 hB2 hL3 q0 q1
   obtain ⟨q0, q1⟩ := k3.two
   go_wp2
   refine wp_obs 8 [[],[0],[],[],[],[2,3,4],[0,1,2,3,4,5],[0,1,2,3,4,5,6]] [VIs (.pointer (some ⟨w.heap.size, 0, none⟩)), VIs (.int .i64 (P)), VIs (.agg #[.int .i64 P, .slice A n c]), VIs (.slice AL n cL), VIs (.slice AL n cL), VIs (.int .i64 (pairL P sq (partL n xs) (partL n xs))), VIs (.int .i64 (rt)), VIs (.int .i64 (rt))] (fun w' => Blk w' w.heap.size 26 #[.int .i64 P, .slice A n c] ∧ Below w3.heap.size w3 w') (by kernel_rfl) (by kernel_rfl) (fun _ _ h hb => ⟨h.1.below hb h.1.lt, h.2.trans (hb.mono h.2.size)⟩) (⟨k3.drew, zG.drew⟩) (fun x => ?_)
   refine zS (fun w' hS hV K hK => ?_) ?_
   · obtain ⟨q0, q1⟩ := hS.1.two; go_simp; exact zO hK
   refine zS (fun w' hS hV K hK => ?_) ?_
   · have e0 := zQ hV 0; obtain ⟨q0, q1⟩ := hS.1.two; go_simp; exact zO hK
   refine zS (fun w' hS hV K hK => ?_) ?_
   · obtain ⟨q0, q1⟩ := hS.1.two; go_simp; exact zO hK
   refine zS (fun w' hS hV K hK => ?_) ?_
   · obtain ⟨q0, q1⟩ := hS.1.two; go_simp; exact zO hK
   refine zS (fun w' hS hV K hK => ?_) ?_
   · obtain ⟨q0, q1⟩ := hS.1.two; go_simp; exact zO hK
   refine zS (fun w' hS hV K hK => ?_) ?_
   · have e2 := zQ hV 2; have e3 := zQ hV 3; have e4 := zQ hV 4; obtain ⟨q0, q1⟩ := hS.1.two; go_simp; refine (l03Pair_any P A n c sq AL cL (partL n xs) AL cL (partL n xs) w' hp hp2 (by omega) (ha.below (HB3.out.trans (hS.2.mono HB3.out.size))) HS.out (HL3.out.rd.below hS.2) HLN.out (HL3.out.rd.below hS.2) HLN.out).mono ?_; rintro e v1 ⟨rfl, hb⟩; exact hK.out _ _ _ rfl rfl rfl hb
   refine zS (fun w' hS hV K hK => ?_) ?_
   · have e1 := zQ hV 1; have e5 := zQ hV 5; obtain ⟨q0, q1⟩ := hS.1.two; go_simp; refine (l01Root_any P (pairL P sq (partL n xs) (partL n xs)) w' hp hp2).mono ?_; rintro e v1 ⟨rfl, rfl⟩; rw [HRT.out]; exact zO hK
   refine zS (fun w' hS hV K hK => ?_) ?_
   · have e6 := zQ hV 6; obtain ⟨q0, q1⟩ := hS.1.two; go_simp; exact zO hK
   refine fun w' hS hV => ?_
   have e0 := zT hV 0
   have e1 := zT hV 1
   have e2 := zT hV 2
   have e3 := zT hV 3
   have e4 := zT hV 4
   have e5 := zT hV 5
   have e6 := zT hV 6
   have e7 := zT hV 7
   simp only [e0, e1, e2, e3, e4, e5, e6, e7]
   clear e0 e1 e2 e3 e4 e5 e6 e7
   refine wpAny_done (by kernel_rfl) ?_ _
   have hb4 := hS.2
   have k4 := hS.1
   have hB4 := hB3.trans (hb4.mono hB3.size)
   obtain ⟨w4, hw4⟩ : ∃ W, W = w' := ⟨_, rfl⟩
   rw [← hw4] at hb4 k4 hB4 ⊢
   clear hS hw4 k3 q0 q1 hB3 hb4 HL3 HB3
   have hpt := l04Part_any X (pw n) cx xs 1 w4 (by omega) (by omega) (hx.below hB4)
   go_wp2_with fail
   refine hpt.mono ?_
   rintro e w5 ⟨A5, c5, rfl, hM5⟩
   have hB5 := hB4.trans (hM5.b.mono hB4.size)
   have k5 := k4.below hM5.b k4.lt
   obtain ⟨sb, hsb⟩ : ∃ b, b = decide (xs = partG xs 1) := ⟨_, rfl⟩
   have hsm := l01Same_b X A5 (pw n) (pw n) cx c5 xs (partG xs 1) w5 (by omega) (by omega) (hx.below hB5) hM5.rd hsb.symm
   have HSB := Lib.hid hsb.symm
   clear hpt k4 hB4 hsb
   go_wp2_with fail
   refine hsm.mono ?_
   rintro e w6 ⟨rfl, j6, rfl⟩
   have hb6 := below_drewN (Below.refl w5.heap.size w5) j6
   have hB6 := hB5.trans (hb6.mono hB5.size)
   have k6 := k5.below hb6 k5.lt
   obtain ⟨w7, hw7⟩ : ∃ W, W = w5.drewN j6 := ⟨_, rfl⟩
   rw [← hw7] at hB6 k6 ⊢
   clear hw7 hsm hM5 k5 hB5 hb6
   cases sb
   · have HNO : Hid (vidR P sq xs = ([], 5)) := Lib.hid (by rw [vidR_no HR0.out (by rw [HSB.out]; rfl)])
     go_wp2
     go_ret2
     exact noRow3 HNO.out hB6
   · by_cases hr : rt ≤ 0
     · have d0 : decide (rt ≤ 0) = true := by simpa using hr
       have HNO : Hid (vidR P sq xs = ([], 5)) := Lib.hid (by rw [vidR_no HR0.out (by rw [HSL.out, ← HRE.out, HSB.out, show decide (0 < rt) = false from decide_eq_false (by omega)]; rfl)])
       go_wp2
       go_ret2
       exact noRow3 HNO.out hB6
     · have d0 : decide (rt ≤ 0) = false := by simp; omega
       have HRP : Hid (0 < rt) := Lib.hid (by omega)
       have hin := l01Inv_any P 2 w7 HPP.out (by omega) (by omega)
       obtain ⟨hf, hhf⟩ : ∃ f, f = invF P 2 := ⟨_, rfl⟩
       obtain ⟨iv, hiv⟩ : ∃ f, f = invF P rt := ⟨_, rfl⟩
       obtain ⟨f1, f2, -⟩ := inv_spec HPP.out (show (0 : Int) < 2 by omega) (by omega)
       obtain ⟨g1, g2, -⟩ := inv_spec HPP.out HRP.out HRS.out
       rw [← hhf] at hin f1 f2
       rw [← hiv] at g1 g2
       have HIV : Hid (invF P rt = iv) := Lib.hid hiv.symm
       have HHF : Hid (0 ≤ hf ∧ hf < P) := Lib.hid ⟨by omega, f2⟩
       have hm0 : 0 ≤ hf * iv := Int.mul_nonneg (by omega) (by omega)
       have hm1 : hf * iv ≤ 13 * 13 := Int.mul_le_mul (by omega) (by omega) (by omega) (by omega)
       have HW9 : Hid (IntKind.i64.wrap (hf * iv) = hf * iv) := Lib.hid (i64_fit _ (by omega) (by omega))
       have HW8 : Hid ((hf * iv).tmod P = hf * iv % P) := Lib.hid (Int.tmod_eq_emod_of_nonneg hm0)
       have HMD : Hid (0 ≤ hf * iv % P ∧ hf * iv % P ≤ 1000) := Lib.hid ⟨Int.emod_nonneg _ (by omega), by have := Int.emod_lt_of_pos (hf * iv) (show 0 < P by omega); omega⟩
       have HB7 := Lib.hid hB6
       have HOK : Hid (vidR P sq xs = (plusL P (scaleL P (bladeL n 0) hf) xs (hf * iv % P), 0)) := Lib.hid (by
        rw [vidR_ok HR0.out HSB.out (by rw [HSL.out, ← HRE.out]; exact HRP.out), HSL.out]
        unfold vidL
        rw [← HRE.out, HIV.out, ← hhf])
       clear hhf hiv f1 f2 g1 g2 hm0 hm1 hr
       obtain ⟨q0, q1⟩ := k6.two
       go_wp2_with fail
       refine hin.mono ?_
       rintro e w8 ⟨rfl, rfl⟩
       have k7 := k6
       clear hin
       go_wp2
       refine wp_obs 21 [[],[0],[],[2],[],[4],[],[2,3,4,5,6],[],[],[],[10],[],[10,11,12],[9,10,11,12,13],[],[15],[9,10,11,12,13,14,15,16],[0,1,2,3,4,5,6,7,8,9,10,11,12,13,14,15,16,17],[0,1,2,3,4,5,6,7,8,9,10,11,12,13,14,15,16,17,18],[]] [VIs (.pointer (some ⟨w.heap.size, 0, none⟩)), VIs (.int .i64 (P)), VIs (.pointer (some ⟨w.heap.size, 0, none⟩)), VIs (.int .i64 (P)), VIs (.agg #[.int .i64 P, .slice A n c]), VSl w7 (pw n) (bladeL n 0), VIs (.int .i64 (hf)), VSl w7 (pw n) (scaleL P (bladeL n 0) hf), VIs (.slice X (pw n) cx), VIs (.int .i64 (hf)), VIs (.pointer (some ⟨w.heap.size, 0, none⟩)), VIs (.int .i64 (P)), VIs (.int .i64 (rt)), VIs (.int .i64 (iv)), VIs (.int .i64 (hf * iv)), VIs (.pointer (some ⟨w.heap.size, 0, none⟩)), VIs (.int .i64 (P)), VIs (.int .i64 (hf * iv % P)), VSl w7 (pw n) (plusL P (scaleL P (bladeL n 0) hf) xs (hf * iv % P)), VSl w7 (pw n) (plusL P (scaleL P (bladeL n 0) hf) xs (hf * iv % P)), VIs (.int .i64 0)] (fun w' => Blk w' w.heap.size 26 #[.int .i64 P, .slice A n c] ∧ Below w7.heap.size w7 w') (by kernel_rfl) (by kernel_rfl) (fun _ _ h hb => ⟨h.1.below hb h.1.lt, h.2.trans (hb.mono h.2.size)⟩) (⟨k7.drew, zG.drew⟩) (fun x => ?_)
       refine zS (fun w' hS hV K hK => ?_) ?_
       · obtain ⟨q0, q1⟩ := hS.1.two; go_simp; exact zO hK
       refine zS (fun w' hS hV K hK => ?_) ?_
       · have e0 := zQ hV 0; obtain ⟨q0, q1⟩ := hS.1.two; go_simp; exact zO hK
       refine zS (fun w' hS hV K hK => ?_) ?_
       · obtain ⟨q0, q1⟩ := hS.1.two; go_simp; exact zO hK
       refine zS (fun w' hS hV K hK => ?_) ?_
       · have e2 := zQ hV 2; obtain ⟨q0, q1⟩ := hS.1.two; go_simp; exact zO hK
       refine zS (fun w' hS hV K hK => ?_) ?_
       · obtain ⟨q0, q1⟩ := hS.1.two; go_simp; exact zO hK
       refine zS (fun w' hS hV K hK => ?_) ?_
       · have e4 := zQ hV 4; obtain ⟨q0, q1⟩ := hS.1.two; go_simp; refine (l04One_any P A n c w' (by omega)).mono ?_; rintro e v1 ⟨A2, c2, rfl, hM⟩; exact hK.out _ _ _ rfl rfl ⟨_, _, rfl, hM.after hS.2⟩ hM.b
       refine zS (fun w' hS hV K hK => ?_) ?_
       · obtain ⟨q0, q1⟩ := hS.1.two; go_simp; exact zO hK
       refine zS (fun w' hS hV K hK => ?_) ?_
       · have e3 := zQ hV 3; obtain ⟨A5, c5, e5, h5⟩ := hV 5 (by decide); have e6 := zQ hV 6; obtain ⟨q0, q1⟩ := hS.1.two; go_simp; refine (l02Scale_any P A5 (pw n) c5 hf (bladeL n 0) w' hp hp2 (by omega) h5.rd (bladeL_nums hp _ _) HHF.out.1 (by have := HHF.out.2; omega)).mono ?_; rintro e v1 ⟨A2, c2, rfl, hM⟩; exact hK.out _ _ _ rfl rfl ⟨_, _, rfl, hM.after hS.2⟩ hM.b
       refine zS (fun w' hS hV K hK => ?_) ?_
       · obtain ⟨q0, q1⟩ := hS.1.two; go_simp; exact zO hK
       refine zS (fun w' hS hV K hK => ?_) ?_
       · obtain ⟨q0, q1⟩ := hS.1.two; go_simp; exact zO hK
       refine zS (fun w' hS hV K hK => ?_) ?_
       · obtain ⟨q0, q1⟩ := hS.1.two; go_simp; exact zO hK
       refine zS (fun w' hS hV K hK => ?_) ?_
       · have e10 := zQ hV 10; obtain ⟨q0, q1⟩ := hS.1.two; go_simp; exact zO hK
       refine zS (fun w' hS hV K hK => ?_) ?_
       · obtain ⟨q0, q1⟩ := hS.1.two; go_simp; exact zO hK
       refine zS (fun w' hS hV K hK => ?_) ?_
       · have e11 := zQ hV 11; have e12 := zQ hV 12; obtain ⟨q0, q1⟩ := hS.1.two; go_simp; have hiv := l01Inv_any P rt w' HPP.out HRP.out HRS.out; rw [HIV.out] at hiv; refine hiv.mono ?_; rintro e v1 ⟨rfl, rfl⟩; exact zO hK
       refine zS (fun w' hS hV K hK => ?_) ?_
       · have e9 := zQ hV 9; have e13 := zQ hV 13; obtain ⟨q0, q1⟩ := hS.1.two; have W9 := HW9.out; go_simp; exact zO hK
       refine zS (fun w' hS hV K hK => ?_) ?_
       · obtain ⟨q0, q1⟩ := hS.1.two; go_simp; exact zO hK
       refine zS (fun w' hS hV K hK => ?_) ?_
       · have e15 := zQ hV 15; obtain ⟨q0, q1⟩ := hS.1.two; go_simp; exact zO hK
       refine zS (fun w' hS hV K hK => ?_) ?_
       · have e14 := zQ hV 14
         have e16 := zQ hV 16
         obtain ⟨q0, q1⟩ := hS.1.two
         have W8 := HW8.out
         have P0 : ¬ P = 0 := by omega
         go_simp
         exact zO hK
       refine zS (fun w' hS hV K hK => ?_) ?_
       · have e1 := zQ hV 1; obtain ⟨A5, c5, e5, h5⟩ := hV 5 (by decide); obtain ⟨A7, c7, e7, h7⟩ := hV 7 (by decide); have e8 := zQ hV 8; have e17 := zQ hV 17; obtain ⟨q0, q1⟩ := hS.1.two; go_simp; refine (l02Plus_any P A7 (pw n) c7 X (pw n) cx (hf * iv % P) (scaleL P (bladeL n 0) hf) xs w' hp hp2 (by omega) (Nat.le_refl _) h7.rd (scaleL_nums (by omega) _ _) (hx.below (HB7.out.trans (hS.2.mono HB7.out.size))) HXS.out HMD.out.1 HMD.out.2).mono ?_; rintro e v1 ⟨A2, c2, rfl, hM⟩; exact hK.out _ _ _ rfl rfl ⟨_, _, rfl, hM.after hS.2⟩ hM.b
       refine zS (fun w' hS hV K hK => ?_) ?_
       · obtain ⟨A5, c5, e5, h5⟩ := hV 5 (by decide); obtain ⟨A7, c7, e7, h7⟩ := hV 7 (by decide); obtain ⟨A18, c18, e18, h18⟩ := hV 18 (by decide); obtain ⟨q0, q1⟩ := hS.1.two; go_simp; exact hK.out _ _ _ rfl rfl ⟨_, _, rfl, h18⟩ zG
       refine zS (fun w' hS hV K hK => ?_) ?_
       · obtain ⟨q0, q1⟩ := hS.1.two; go_simp; exact zO hK
       refine fun w' hS hV => ?_
       have e0 := zT hV 0
       have e1 := zT hV 1
       have e2 := zT hV 2
       have e3 := zT hV 3
       have e4 := zT hV 4
       obtain ⟨A5, c5, e5, h5⟩ := hV 5 (by decide)
       have e6 := zT hV 6
       obtain ⟨A7, c7, e7, h7⟩ := hV 7 (by decide)
       have e8 := zT hV 8
       have e9 := zT hV 9
       have e10 := zT hV 10
       have e11 := zT hV 11
       have e12 := zT hV 12
       have e13 := zT hV 13
       have e14 := zT hV 14
       have e15 := zT hV 15
       have e16 := zT hV 16
       have e17 := zT hV 17
       obtain ⟨A18, c18, e18, h18⟩ := hV 18 (by decide)
       obtain ⟨A19, c19, e19, h19⟩ := hV 19 (by decide)
       have e20 := zT hV 20
       simp only [e0, e1, e2, e3, e4, e5, e6, e7, e8, e9, e10, e11, e12, e13, e14, e15, e16, e17, e18, e19, e20]
       clear e0 e1 e2 e3 e4 e5 e6 e7 e8 e9 e10 e11 e12 e13 e14 e15 e16 e17 e18 e19 e20
       refine wpAny_done (by kernel_rfl) ?_ _
       go_wp2
       go_ret2
       have hM9 := h19.after hB6
       rw [HOK.out]
       exact ⟨_, _, _, rfl, hM9⟩
 · obtain ⟨r, hr⟩ : ∃ r, r = codeA P sq [xs] := ⟨_, rfl⟩
   have HR := Lib.hid hr
   have HR0 := Lib.hid hr0
   have b0 : (r != 0) = true := code_ne (by rw [hr]; exact hr0)
   rw [← hr] at hreg
   clear hr hr0
   go_enter Tryz.func70, Tryz.ntmps70
   go_wp2_with fail
   refine hreg.mono ?_
   rintro e w2 ⟨rfl, hb2⟩
   have hB2 := hB1.trans (hb2.mono hB1.size)
   go_wp2
   go_ret2
   exact noRow3 (by rw [vidR_bad HR0.out, HR.out]) hB2
end Go.Proofs.YtmkjdpnoloofjaaGreat
namespace Go.Proofs.YtmkjdpnoloofjaaGreat
theorem vid_idem {P : Int} (hP : isP P = true) {sq vs : List Int} (h6 : sq.length ≤ 6) (hl : vs.length = pw sq.length) (hv : NumsL P vs) (h1 : decide (vs = partG vs 1) = true) (h2 : 0 < vrtL P sq sq.length vs) :
    mulL P sq (vidL P sq sq.length vs) (vidL P sq sq.length vs) = vidL P sq sq.length vs ∧ (vidL P sq sq.length vs).length = pw sq.length ∧ NumsL P (vidL P sq sq.length vs) := by
 have h3 := isP_ge hP
 have hp : 0 < P := by omega
 have h22 : 2 ≤ P := by omega
 obtain ⟨X, hX⟩ : ∃ X : Cl P sq, X.l = vs := ⟨⟨vs, hl, hv, hp⟩, rfl⟩
 have ho : onlyL vs 1 = true := by
  have h64 : pw sq.length ≤ 64 := pw_le h6
  have := onlyL_part2 (ys := vs) (by omega) 1
  exact this.symm.trans h1
 rw [← hX] at ho
 have hXv := (Cl.only_one h6 hp X).1 ho
 rw [hX] at hXv
 obtain ⟨u, hu⟩ : ∃ u, u = partL sq.length vs := ⟨_, rfl⟩
 rw [← hu] at hXv
 obtain ⟨r, hr⟩ : ∃ r, r = vrtL P sq sq.length vs := ⟨_, rfl⟩
 have hrt : rootF P (pairL P sq u u) P.toNat 0 = some r := by
  have h2' : 0 < r := by rw [hr]; exact h2
  unfold vrtL at hr
  rw [← hu] at hr
  cases he : rootF P (pairL P sq u u) P.toNat 0 with
  | none =>
   rw [he] at hr
   have h9 : r = -1 := hr
   omega
  | some s => rw [he] at hr; rw [hr]; rfl
 obtain ⟨s1, s2, s3⟩ := rootF_spec P _ _ _ _ hrt
 have hr0 : 0 < r := by rw [hr]; exact h2
 have hrP : r < P := by omega
 obtain ⟨a, ha⟩ : ∃ a, a = invF P 2 := ⟨_, rfl⟩
 obtain ⟨c, hc⟩ : ∃ c, c = a * invF P r % P := ⟨_, rfl⟩
 obtain ⟨N, hN⟩ : ∃ N, N = bil sq u u := ⟨_, rfl⟩
 have hul : u.length = sq.length := by rw [hu, partL_len]
 have e2 : 2 * a % P = 1 := by
  have := inv_mod hP (a := 2) (by rw [Int.emod_eq_of_lt (by omega) (by omega)]; omega)
  rw [Int.emod_eq_of_lt (a := 2) (by omega) (by omega), ← ha] at this
  exact this
 have er : r * invF P r % P = 1 := by
  have := inv_mod hP (a := r) (by rw [Int.emod_eq_of_lt (by omega) hrP]; omega)
  rw [Int.emod_eq_of_lt (a := r) (by omega) hrP] at this
  exact this
 have eN : N % P = r * r % P := by
  rw [hN, ← pairL_bil hul, ← s3, Int.emod_emod_of_dvd _ (Int.dvd_refl P)]
 have ecr : c * r % P = a % P := by
  rw [hc, Int.mul_emod, Int.emod_emod_of_dvd _ (Int.dvd_refl P), ← Int.mul_emod, Int.mul_assoc, Int.mul_comm (invF P r), Int.mul_emod, er, Int.mul_one, Int.emod_emod_of_dvd _ (Int.dvd_refl P)]
 have eA : (a * a + c * c * N) % P = a % P := by
  have k1 : c * c * N % P = a * a % P := by
   rw [Int.mul_emod, eN, ← Int.mul_emod, show c * c * (r * r) = (c * r) * (c * r) by rw [Int.mul_assoc, Int.mul_assoc, Int.mul_comm c (r * r), Int.mul_assoc, Int.mul_comm r c], Int.mul_emod, ecr, ← Int.mul_emod]
  rw [Int.add_emod, k1, ← Int.add_emod, show a * a + a * a = 2 * a * a by rw [Int.mul_assoc]; omega, Int.mul_emod, e2, Int.one_mul, Int.emod_emod_of_dvd _ (Int.dvd_refl P)]
 have eC : (a * c + c * a) % P = c % P := by
  rw [Int.mul_comm c a, show a * c + a * c = 2 * a * c by rw [Int.mul_assoc]; omega, Int.mul_emod, e2, Int.one_mul, Int.emod_emod_of_dvd _ (Int.dvd_refl P)]
 have hE : vidL P sq sq.length vs = (a * Cl.one hp + c * X : Cl P sq).l := by
  rw [Cl.add_l, Cl.sm_l, Cl.one_l h22, hX]
  unfold vidL
  rw [← hr, ← ha, ← hc]
 rw [hE, ← Cl.mul_l]
 refine ⟨congrArg Cl.l ?_, Cl.len _, Cl.nums _⟩
 have hXX : X * X = N * Cl.one hp := by rw [hXv, Cl.vec_sq hp hP, hN]
 rw [Cl.add_mul, Cl.mul_add, Cl.mul_add, Cl.sm_mul, Cl.sm_mul, Cl.mul_sm, Cl.mul_sm, Cl.one_mul, Cl.one_mul, Cl.sm_mul, Cl.sm_mul, Cl.mul_sm, Cl.mul_sm, Cl.mul_one, hXX, Cl.sm_sm, Cl.sm_sm, Cl.sm_sm, Cl.sm_sm, Cl.sm_sm]
 rw [Cl.add_assoc, Cl.add_comm ((c * a) * X), ← Cl.add_assoc ((a * c) * X), Cl.add_comm ((a * c) * X), Cl.add_assoc, ← Cl.add_assoc ((a * a) * Cl.one hp), ← Cl.add_sm, ← Cl.add_sm]
 rw [Cl.sm_cg eA, Cl.sm_cg eC]
end Go.Proofs.YtmkjdpnoloofjaaGreat
namespace Go.Proofs.YtmkjdpnoloofjaaGreat
open Go.RowKit
/-- The value is a slice of one new number. -/
def VOn (r : Int) : VP := ⟨fun v w => ∃ gb : Nat, v = .slice (some ⟨gb, 0, none⟩) 1 1 ∧ Rd w (some ⟨gb, 0, none⟩) 1 (ints [r]), fun _ _ _ ⟨gb, e, h⟩ hb => ⟨gb, e, h.below hb⟩⟩
theorem rd_one (w : World) (r : Int) : Rd (w.alloc (.cells #[.int .i64 r] 2)) (some ⟨w.heap.size, 0, none⟩) 1 (ints [r]) := by
 have h := (Mk.lit (E := 2) (Below.refl w.heap.size w) #[.int .i64 r] (by simp [maxLen])).2.rd
 simpa [ints] using h
theorem endB_succ (B : List (List Int)) (n k : Nat) : endB B n (k + 1) = (endB B n k || (ld B k == n)) := by
 unfold endB
 rw [List.range_succ, List.any_append]; simp
theorem endB_more {B : List (List Int)} {n k m : Nat} (h : endB B n k = true) (hk : k ≤ m) : endB B n m = true := by
 obtain ⟨i, hi, e⟩ := endB_iff.1 h
 exact endB_iff.2 ⟨i, by omega, e⟩
theorem ret_sol {w w' : World} {A : Option Addr} {n c : Nat} {R : List Int × Bool} {L : List Int} {b : Bool} (hR : R = (L, b)) (h : MkI w w' A n c L) : ∃ (A' : Option Addr) (k c' : Nat), Ending.returned (.tuple #[.slice A n c, .bool b]) = .returned (.tuple #[.slice A' k c', .bool R.2]) ∧ MkI w w' A' k c' R.1 := by
 subst hR; exact ⟨_, _, _, rfl, h⟩
set_option maxHeartbeats 6400000 in
set_option maxRecDepth 8000 in
theorem solve_any (p : Int) (A : Option Addr) (r c : Nat) (M : List (List Int)) (n : Nat) (V : Option Addr) (cv : Nat) (v : List Int) (w : World) (HP : isP p = true) (h0 : 0 < r) (hr : r ≤ 1000) (hn0 : 0 < n) (hn : n ≤ 1000) (ha : RdII w A r M) (hT : Tab p n M) (hv : Rd w V r (ints v)) (hvn : NumsL p v) :
    Calls Tryz.prog 162 #[.int .i64 p, .slice A r c, .slice V r cv] w fun e w' => ∃ (A' : Option Addr) (k c' : Nat), e = .returned (.tuple #[.slice A' k c', .bool (solR p M v n).2]) ∧ MkI w w' A' k c' (solR p M v n).1 := by
 obtain ⟨hp3, hp2⟩ := isP_ge HP
 have hl := ha.len
 have HAT := Lib.hid (augL_tab (show 0 < p by omega) hT hvn)
 have HM := Lib.hid hT
 have HL := Lib.hid hl
 have HPP := Lib.hid HP
 obtain ⟨R, hR⟩ : ∃ R, R = solR p M v n := ⟨_, rfl⟩
 rw [← hR]
 have HR := Lib.hid hR
 have hA0 : Below w.heap.size w (w.alloc (.cells #[] 24)) := zG.alloc (Nat.le_refl _) _
 have hO0 : MkII w (w.alloc (.cells #[] 24)) (some ⟨w.heap.size, 0, none⟩) 0 0 [] := MkII.empty zG
 have hE0 : Blk (w.alloc (.cells #[] 24)) w.heap.size 24 #[] := Blk.new _ _ _
 have a3 := ha.below hA0
 have v3 := hv.below hA0
 obtain ⟨gz, oz, rfl, hxz, Az, cz, hcz, -, -⟩ := ha.at_ h0
 have hlz : M[0].length = n := (HM.out M[0] (List.getElem_mem hxz)).1
 rw [hlz, Nat.add_zero] at hcz
 have hgr0 : Grows (w.alloc (.cells #[] 24)) (w.alloc (.cells #[] 24)) w.heap.size (.slice (some ⟨w.heap.size, 0, none⟩) 0 0) := ⟨CK.refl _, Nat.le_refl _, fun gb h => .inl (by simpa [Value.ownBlock] using h.symm)⟩
 have i0 : (0 : Int) < (r : Int) := by omega
 clear hl HP hR hT hvn hlz hxz ha hv
 go_enter Tryz.func162, Tryz.ntmps162
 go_wp2
 obtain ⟨w3, hw3⟩ : ∃ W, W = w.alloc (.cells #[] 24) := ⟨_, rfl⟩
 rw [← hw3] at hO0 hE0 hgr0 a3 v3 hA0 ⊢
 obtain ⟨g3, hg3⟩ : ∃ g, g = w.heap.size := ⟨_, rfl⟩
 rw [← hg3] at hO0 hE0 hgr0 ⊢
 clear hw3 hg3 hcz i0
 go_loopw [9, 23] (fun out i wr => ∃ (k : Nat) (A' : Option Addr) (c' : Nat), k ≤ r ∧ i = .int .i64 k ∧ out = .slice A' k c' ∧ MkII w wr A' k c' (tab k fun i => M.getD i [] ++ [v.getD i 0]) ∧ Grows w3 wr g3 (.slice A' k c')) (fun _ i _ => r - (intOf i).toNat)
 case atStart => exact ⟨0, _, _, by omega, rfl, rfl, hO0, hgr0⟩
 case round =>
  obtain ⟨k, A', c', hk, rfl, rfl, hM, hgr⟩ := hrel
  clear hO0 hgr0
  by_cases hlt : k < r
  · have hBn := hM.b
    obtain ⟨ga, oa, e9, hxk, Ak, ck, hck, hrk, hcc⟩ := (a3.ck hgr.1).at_ hlt
    cases e9
    obtain ⟨gv, ov, rfl, hvk, hcv⟩ := (v3.ck hgr.1).int hlt
    have hlk : M[k].length = n := (HM.out M[k] (List.getElem_mem hxk)).1
    rw [hlk] at hck hrk hcc
    have HAP : Hid ((tab (k + 1) fun i => M.getD i [] ++ [v.getD i 0]) = (tab k fun i => M.getD i [] ++ [v.getD i 0]) ++ [M[k] ++ [v[k]]]) := Lib.hid (by rw [tab_succ, getD_of_lt [] hxk, getD_of_lt 0 hvk])
    obtain ⟨X, hX⟩ : ∃ X, X = M[k] := ⟨_, rfl⟩
    obtain ⟨y, hy⟩ : ∃ y, y = v[k] := ⟨_, rfl⟩
    rw [← hX] at hrk HAP
    rw [← hy] at hcv HAP
    have HOWN := Lib.hid fun (w' : World) (h : Below wr.heap.size wr w') => clone_any Ak n ck X w' (by omega) (hrk.below h)
    have HMM := Lib.hid hM
    have HGR := Lib.hid hgr
    have i1 : (0 : Int) ≤ (k : Int) := by omega
    have i2 : (k : Int) < (r : Int) := by omega
    clear hX hy hxk hvk hrk hlk hM hgr hcc
    go_wp2
    refine wp_obsD 10 wr.heap.size [[], [], [1], [], [], [3, 4], [3, 4, 5], [3, 4, 5, 6], [1, 2, 3, 4, 5, 6, 7], [1, 2, 3, 4, 5, 6, 7, 8], [0, 1, 2, 3, 4, 5, 6, 7, 8, 9], [0, 1, 2, 3, 4, 5, 6, 7, 8, 9, 10]] [[], [], [], [], [], [], [], [], [2, 7], []] (fun x => [VIs (.slice A' k c'), VIs (.slice Ak n ck), VSl wr n X, VIs (.slice (some ⟨gv, ov, none⟩) r cv), VIs (.int .i64 (k)), VIs (.pointer (some ⟨gv, ov + k, none⟩)), VIs (.int .i64 (y)), VOn y, VSl wr (n + 1) (X ++ [y]), VNew wr (n + 1) (X ++ [y])]) (fun w' => w'.cell? ⟨gz, oz + k, none⟩ = some (.slice Ak n ck) ∧ w'.cell? ⟨gv, ov + k, none⟩ = some (.int .i64 y) ∧ Below wr.heap.size wr w') (by kernel_rfl) (by kernel_rfl) (fun x x' j hx => by
        rcases j with _ | _ | _ | _ | _ | _ | _ | _ | _ | _ | j
        · rfl
        · rfl
        · rfl
        · rfl
        · rfl
        · rfl
        · rfl
        · rfl
        · rfl
        · rfl
        · rfl)
     (weak_of [0, 1, 3, 4, 5, 6] (by decide) (fun k hk x => by
      simp only [List.mem_cons, zJ, or_false] at hk
      rcases hk with rfl | rfl | rfl | rfl | rfl | rfl <;> exact ⟨_, rfl⟩)) (fun j _ _ h hb => ⟨(hb.cell (lim_lt (World.block_lt_of_cell? _ _ hck) h.2.2.size)).trans h.1, (hb.cell (lim_lt (World.block_lt_of_cell? _ _ hcv) h.2.2.size)).trans h.2.1, h.2.2.trans (hb.mono (lim_ge h.2.2.size))⟩) (⟨hck, hcv, zG.drew⟩) (fun x => ?_)
    refine obs_stepD (Eq.trans (by simp only [zA, zC]; exact rfl) rfl) rfl (fun w' hS hV K hK => ?_) ?_
    · have q0 := hS.1; have q1 := hS.2.1; go_simp; exact hK.out _ _ _ rfl rfl rfl zG
    simp only [zD, zE, zF]
    refine obs_stepD (Eq.trans (by simp only [zA, zB, zC]; exact rfl) rfl) rfl (fun w' hS hV K hK => ?_) ?_
    · have q0 := hS.1; have q1 := hS.2.1; go_simp; exact hK.out _ _ _ rfl rfl rfl zG
    simp only [zD, zE, zF]
    refine obs_stepD (Eq.trans (by simp only [zA, zB, zC]; exact rfl) rfl) rfl (fun w' hS hV K hK => ?_) ?_
    · have e1 := zQ hV 1; have q0 := hS.1; have q1 := hS.2.1; go_simp; refine (HOWN.out _ hS.2.2).mono ?_; rintro e v1 ⟨A9, c9, rfl, hM⟩; exact hK.out _ _ _ rfl rfl ⟨_, _, rfl, hM.after hS.2.2⟩ hM.b
    simp only [zD, zE, zF]
    refine obs_stepD (Eq.trans (by simp only [zA, zB, zC]; exact rfl) rfl) rfl (fun w' hS hV K hK => ?_) ?_
    · have q0 := hS.1; have q1 := hS.2.1; go_simp; exact hK.out _ _ _ rfl rfl rfl zG
    simp only [zD, zE, zF]
    refine obs_stepD (Eq.trans (by simp only [zA, zB, zC]; exact rfl) rfl) rfl (fun w' hS hV K hK => ?_) ?_
    · have q0 := hS.1; have q1 := hS.2.1; go_simp; exact hK.out _ _ _ rfl rfl rfl zG
    simp only [zD, zE, zF]
    refine obs_stepD (Eq.trans (by simp only [zA, zB, zC]; exact rfl) rfl) rfl (fun w' hS hV K hK => ?_) ?_
    · have e3 := zQ hV 3; have e4 := zQ hV 4; have q0 := hS.1; have q1 := hS.2.1; go_simp; exact hK.out _ _ _ rfl rfl rfl zG
    simp only [zD, zE, zF]
    refine obs_stepD (Eq.trans (by simp only [zA, zB, zC]; exact rfl) rfl) rfl (fun w' hS hV K hK => ?_) ?_
    · have e5 := zQ hV 5; have q0 := hS.1; have q1 := hS.2.1; go_simp; exact hK.out _ _ _ rfl rfl rfl zG
    simp only [zD, zE, zF]
    refine obs_stepD (Eq.trans (by simp only [zA, zB, zC]; exact rfl) rfl) rfl (fun w' hS hV K hK => ?_) ?_
    · have e6 := zQ hV 6; have q0 := hS.1; have q1 := hS.2.1; go_simp; exact hK.out _ _ _ rfl rfl ⟨_, rfl, rd_one _ _⟩ (zG.alloc (Nat.le_refl _) _)
    simp only [zD, zE, zF]
    refine obs_stepD (Eq.trans (by simp only [zA, zB, zC]; exact rfl) rfl) rfl (fun w' hS hV K hK => ?_) ?_
    · obtain ⟨A2, c2, e2, h2⟩ := hV 2 (by decide); obtain ⟨g7, e7, r7⟩ := hV 7 (by decide); have q0 := hS.1; have q1 := hS.2.1; refine wp_appAll wr w' _ _ rfl A2 n c2 X (some ⟨g7, 0, none⟩) 1 1 [y] h2 r7 (by omega) (by omega) (by omega) e2 e7 ?_; intro A20 c20 w20 hM20 hg20; exact hK.out _ _ _ rfl rfl ⟨_, _, rfl, hM20⟩ (h2.grown_below hg20)
    simp only [zD, zE, zF]
    refine obs_stepD (Eq.trans (by simp only [zA, zB, zC]; exact rfl) rfl) rfl (fun w' hS hV K hK => ?_) ?_
    · obtain ⟨A8, c8, e8, h8⟩ := hV 8 (by decide); have q0 := hS.1; have q1 := hS.2.1; go_simp; exact hK.out _ _ _ rfl rfl ⟨_, _, _, rfl, Blk.new _ _ _, h8.below (zG.alloc (Nat.le_refl _) _)⟩ (zG.alloc (Nat.le_refl _) _)
    simp only [zD, zE, zF]
    refine fun w' hS hV => ?_
    have e0 := zQ hV 0
    have e1 := zQ hV 1
    have e3 := zQ hV 3
    have e4 := zQ hV 4
    have e5 := zQ hV 5
    have e6 := zQ hV 6
    obtain ⟨A8, c8, e8, h8⟩ := hV 8 (by decide)
    obtain ⟨g9, A9, c9, e9, b9, h9⟩ := hV 9 (by decide)
    simp only [e0, e1, e3, e4, e5, e6, e8, e9]
    clear e0 e1 e3 e4 e5 e6 e8 e9
    obtain ⟨-, -, s2⟩ := hS
    refine any_plain (j := 10) (by kernel_rfl) (Eq.trans (by simp only [zA, zB, zC]; exact rfl) rfl) rfl (fun K hK => ?_)
    refine wp_appRow w wr w' _ _ rfl A' k c' _ A9 (n + 1) c9 _ HMM.out h9 (by omega) g9 b9 (by rfl) (by rfl) ?_
    intro A20 c20 w20 hM20 hg20 hat20
    refine hK.out _ _ ?_
    simp only [Act.put, zD, zE, zF]
    refine any_one (j := 11) (by kernel_rfl) (Eq.trans (by simp only [zA, zB, zC]; exact rfl) rfl) (fun K hK => ?_)
    go_simp
    refine hK.out _ _ (wpAny_done (by kernel_rfl) ?_ _)
    have hgr7 := HGR.out.step (n' := k + 1) (c' := c20) hE0 s2 hg20 hat20
    clear hg20 hat20 s2
    go_wp2
    go_roundw
    case rel => exact ⟨k + 1, A20, c20, by omega, by go_num, rfl, by rw [HAP.out]; exact hM20, hgr7⟩
    case measure => simp [intOf]; omega
  · obtain rfl : k = r := by omega
    clear a3 v3 hE0 hgr hA0
    have hAug : (tab k fun i => M.getD i [] ++ [v.getD i 0]) = augL M v := by unfold augL; rw [HL.out]
    rw [hAug] at hM
    have hrd := hM.rd
    have hBw := hM.b
    have hmk := make_i (P := Tryz.prog) 24 2 Tryz.underlying24 info_i n (by omega)
    have hQ := Mk.made (E := 2) (n := n) (z := .int .i64 0) hBw (by simp only [maxLen]; omega)
    rw [ints_replicate] at hQ
    have hb5 : Below wr.heap.size wr (wr.alloc (.cells (madeCells #[.int .i64 0] n) 2)) := zG.alloc (Nat.le_refl _) _
    have hrd5 := hrd.below hb5
    clear hM hAug hrd hBw
    go_wp2_with fail
    obtain ⟨w5, hw5⟩ : ∃ W, W = wr.alloc (.cells (madeCells #[.int .i64 0] n) 2) := ⟨_, rfl⟩
    rw [← hw5] at hQ hrd5 ⊢
    obtain ⟨g5, hg5⟩ : ∃ g, g = wr.heap.size := ⟨_, rfl⟩
    rw [← hg5] at hQ ⊢
    have hg5l : g5 < w5.heap.size := by rw [hg5, hw5]; simp
    have hcall := basis_any p A' k c' (augL M v) (n + 1) w5 HPP.out (by omega) (by omega) hrd5 HAT.out
    obtain ⟨B, hB⟩ : ∃ B, B = basisL p (augL M v) := ⟨_, rfl⟩
    rw [← hB] at hcall
    have HB := Lib.hid hB
    have HBT : Hid (Tab p (n + 1) B) := Lib.hid (by rw [hB]; exact basisL_tab (by omega) _ HAT.out)
    have HBR : Hid (Red (n + 1) B) := Lib.hid (by rw [hB]; exact basisL_red HPP.out _ HAT.out)
    clear hw5 hg5 hb5 hrd5 hmk hB
    refine hcall.mono ?_
    rintro e wB ⟨AB, cB, rfl, hMB⟩
    have hQ2 := hQ.below hMB.b
    clear hcall hQ
    have hkb : B.length ≤ 1001 := Nat.le_trans HBR.out.len (by omega)
    go_wp2
    go_loopw [46] (fun i wr => ∃ j : Nat, j ≤ B.length ∧ i = .int .i64 j ∧ MkI w wr (some ⟨g5, 0, none⟩) n n (solTo B n j) ∧ endB B n j = false ∧ wB.heap.size ≤ wr.heap.size ∧ ∀ b, w5.heap.size ≤ b → b < wB.heap.size → wr.heap[b]? = wB.heap[b]?) (fun i _ => B.length - (intOf i).toNat)
    case atStart => exact ⟨0, by omega, rfl, hQ2, rfl, Nat.le_refl _, fun _ _ _ => rfl⟩
    case round =>
     obtain ⟨j, hj, rfl, hQj, hej, hsz, hkp⟩ := hrel
     clear hQ2
     by_cases hjt : j < B.length
     · obtain ⟨gb, ob, rfl, hxj, Aj, cj, hcj, hrj, hccj⟩ := (hMB.keep hkp).at_ hjt
       have hlj : B[j].length = n + 1 := (HBT.out B[j] (List.getElem_mem hxj)).1
       have hBj : B.getD j [] = B[j] := getD_of_lt [] hxj
       rw [hlj] at hcj hrj hccj
       have hlead := lead_any Aj (n + 1) cj B[j] wr (by omega) hrj
       have hld : leadL B[j] = ld B j := by unfold ld; rw [hBj]
       rw [hld] at hlead
       have hlt := HBR.out.lt j hjt
       obtain ⟨gj, oj, rfl, hyk, hcy⟩ := hrj.int (show n < n + 1 by omega)
       have hen : B[j][n] = ent B j n := by unfold ent; rw [hBj, getD_of_lt 0 hyk]
       rw [hen] at hcy
       have HSX : Hid (solTo B n (j + 1) = (solTo B n j).set (ld B j) (ent B j n)) := Lib.hid rfl
       have hes := endB_succ B n j
       rw [hej, Bool.false_or] at hes
       obtain ⟨y, hy⟩ : ∃ y, y = ld B j := ⟨_, rfl⟩
       obtain ⟨z, hz⟩ : ∃ z, z = ent B j n := ⟨_, rfl⟩
       rw [← hy] at hlead hlt HSX hes
       rw [← hz] at hcy HSX
       clear hy hz hen hyk hld hBj hlj hxj hrj hccj
       have HES := Lib.hid hes
       clear hes
       go_wp2_with fail
       refine hlead.mono ?_
       rintro e w7 ⟨rfl, rfl⟩
       clear hlead
       by_cases hyn : y = n
       · have t1 : ((y : Int) == (n : Int)) = true := by simp [hyn]
         have hend : endB B n B.length = true := endB_more (k := j + 1) (by rw [HES.out, hyn]; simp) (by omega)
         have HRE : Hid (R = ([], false)) := Lib.hid (by rw [HR.out]; unfold solR; rw [← HB.out, hend]; rfl)
         clear hend
         go_wp2
         go_ret2
         exact ret_sol HRE.out (Mk.nil hQj.b)
       · have t1 : ((y : Int) == (n : Int)) = false := by simp; omega
         have hend : endB B n (j + 1) = false := by rw [HES.out]; simp [hyn]
         have HEND := Lib.hid hend
         have hyl : y < n := by omega
         obtain ⟨hoc, hof⟩ := mkI_at hQj hyl
         have hset := (hQj.set y (.int .i64 z)).1
         rw [ints_set, ← HSX.out] at hset
         have HSET := Lib.hid hset
         have HKP : Hid (wB.heap.size ≤ (wr.setCell ⟨g5, y, none⟩ (.int .i64 z)).heap.size ∧ ∀ b, w5.heap.size ≤ b → b < wB.heap.size → (wr.setCell ⟨g5, y, none⟩ (.int .i64 z)).heap[b]? = wB.heap[b]?) := Lib.hid ⟨Nat.le_trans hsz ((Below.refl g5 wr).setCell (p := ⟨g5, y, none⟩) (Nat.le_refl _) _).size, fun b h1 h2 => (Below.heap_setCell wr ⟨g5, y, none⟩ (.int .i64 z) b (show b ≠ g5 by omega)).trans (hkp b h1 h2)⟩
         have i3 : (0 : Int) ≤ (y : Int) := by omega
         have i4 : (y : Int) < (n : Int) := by omega
         have i5 : (n : Int) < ((n + 1 : Nat) : Int) := by omega
         clear hset hend hkp hsz HES hyn
         go_wp2
         go_roundw
         case rel => exact ⟨j + 1, by omega, by go_num, HSET.out, HEND.out, HKP.out.1, HKP.out.2⟩
         case measure => simp [intOf]; omega
     · obtain rfl : j = B.length := by omega
       have HRE : Hid (R = (solTo B n B.length, true)) := Lib.hid (by rw [HR.out]; unfold solR; rw [← HB.out, hej]; rfl)
       go_wp2
       go_ret2
       exact ret_sol HRE.out hQj
end Go.Proofs.YtmkjdpnoloofjaaGreat
namespace Go.Proofs.YtmkjdpnoloofjaaGreat
section
variable {p : Int} {n : Nat} {M : List (List Int)}
/-- Powers in the ring. -/
def Mt.pw (x : Mt p n) : Nat → Mt p n
 | 0 => Mt.one x.pos
 | k + 1 => Mt.pw x k * x
end
section
variable {p : Int} {sq : List Int} {M : List (List Int)}
end
end Go.Proofs.YtmkjdpnoloofjaaGreat
namespace Go.Proofs.YtmkjdpnoloofjaaGreat
open Go.RowKit
set_option maxHeartbeats 400000 in
set_option maxRecDepth 8000 in
theorem likeInts_any (A B : Option Addr) (n m c d : Nat) (xs ys : List Int) (w : World) (hn : n ≤ 1099511627776) (hm : m ≤ 1099511627776)
    (ha : Rd w A n (ints xs)) (hb : Rd w B m (ints ys)) :
    Calls Tryz.prog 16 #[.slice A n c, .slice B m d] w fun e w' => e = .returned (.bool (decide (xs = ys))) ∧ ∃ j, w' = w.drewN j := by
 have hxl : xs.length = n := by have := ha.1; rwa [ints_length] at this
 have hyl : ys.length = m := by have := hb.1; rwa [ints_length] at this
 by_cases hnm : n = m
 · subst hnm
   have Hx := Lib.hid hxl; clear hxl
   have Hy := Lib.hid hyl; clear hyl
   go_enter Tryz.func16, Tryz.ntmps16
   go_wp2
   go_loopw [5] (fun i wr => ∃ k j : Nat, k ≤ n ∧ i = .int .i64 k ∧ xs.take k = ys.take k ∧ wr = w.drewN j) (fun i _ => n - (intOf i).toNat)
   case atStart => exact ⟨0, 0, by omega, rfl, by simp, rfl⟩
   case round =>
    obtain ⟨k, j, hk, rfl, hxy, rfl⟩ := hrel
    have H := Lib.hid hxy; clear hxy
    by_cases hlt : k < n
    · obtain ⟨g, o, rfl, hx, hcx⟩ := ha.int hlt
      obtain ⟨g', o', rfl, hy, hcy⟩ := hb.int hlt
      clear ha hb
      go_wp2
      go_quiet (fail)
      go_wp2
      · go_ret
        exact ⟨ret_bool (ne_of_get xs ys k hx hy (by assumption)).symm, _, World.drewN_drewN _ _ _⟩
      · go_roundw
        case rel => exact ⟨k + 1, _, by omega, by go_num, take_succ_eq xs ys k hx hy H.out (by simpa using (by assumption : (xs[k] != ys[k]) = false)), rfl⟩
        case measure => simp [intOf]; omega
    · go_wp2
      go_ret
      refine ⟨ret_bool ?_, _, rfl⟩
      have := H.out
      rw [List.take_of_length_le (by rw [Hx.out]; omega), List.take_of_length_le (by rw [Hy.out]; omega)] at this
      rw [this]; simp
 · have hne : decide (xs = ys) = false := by
    rw [decide_eq_false_iff_not]; rintro rfl; omega
   have Hne := Lib.hid hne; clear hne hxl hyl
   have hb0 : ((n : Int) != (m : Int)) = true := by rw [bne_iff_ne]; omega
   go_enter Tryz.func16, Tryz.ntmps16
   go_wp2
   go_ret
   exact ⟨ret_bool Hne.out.symm, 0, rfl⟩
set_option maxHeartbeats 800000 in
set_option maxRecDepth 8000 in
theorem zero5_any (A : Option Addr) (n c : Nat) (xs : List Int) (w : World) (hn : n ≤ 1099511627776) (ha : Rd w A n (ints xs)) :
    Calls Tryz.prog 57 #[.slice A n c] w fun e w' => e = .returned (.bool (decide (∀ y ∈ xs, y = 0))) ∧ w' = w := by
 have hxl : xs.length = n := by have := ha.1; rwa [ints_length] at this
 have Hx := Lib.hid hxl; clear hxl
 go_enter Tryz.func57, Tryz.ntmps57
 go_wp2
 go_loopw [3] (fun i wr => ∃ k : Nat, k ≤ n ∧ i = .int .i64 k ∧ (∀ y ∈ xs.take k, y = 0) ∧ wr = w) (fun i _ => n - (intOf i).toNat)
 case atStart => exact ⟨0, by omega, rfl, by simp, rfl⟩
 case round =>
  obtain ⟨k, hk, rfl, hxy, rfl⟩ := hrel
  have H := Lib.hid hxy; clear hxy
  by_cases hlt : k < n
  · obtain ⟨g, o, rfl, hx, hcx⟩ := ha.int hlt
    have HM : Hid (xs[k] ∈ xs) := Lib.hid (List.getElem_mem hx)
    have HT : Hid (xs.take (k + 1) = xs.take k ++ [xs[k]]) := Lib.hid (List.take_succ_eq_append_getElem hx)
    obtain ⟨u, hu⟩ : ∃ u, u = xs[k] := ⟨_, rfl⟩
    rw [← hu] at hcx HM HT
    clear hu
    by_cases hz : u = 0
    · have b0 : (u != 0) = false := by simp [hz]
      go_wp2
      go_roundw
      case rel => exact ⟨k + 1, by omega, by go_num, fun y hy => by
       rw [HT.out] at hy
       rcases List.mem_append.1 hy with hy | hy
       · exact H.out y hy
       · rw [List.mem_singleton.1 hy]; exact hz, by trivial⟩
      case measure => simp [intOf]; omega
    · have b0 : (u != 0) = true := by simp [hz]
      go_wp2
      go_ret
      exact ⟨ret_bool (by rw [eq_comm, decide_eq_false_iff_not]; exact fun h => hz (h u HM.out)), rfl⟩
  · go_wp2
    go_ret
    have := H.out
    rw [List.take_of_length_le (by rw [Hx.out]; omega)] at this
    refine ⟨ret_bool ?_, rfl⟩
    rw [eq_comm, decide_eq_true_eq]; exact this
/-- MinimalPolynomial. -/
def mnpR (P : Int) (sq xs : List Int) : List Int × Int := if codeA P sq [xs] = 0 then (minL P sq sq.length xs, 0) else ([], codeA P sq [xs])
theorem mnpR_ok {P : Int} {sq xs : List Int} (h : codeA P sq [xs] = 0) : mnpR P sq xs = (minL P sq sq.length xs, 0) := by unfold mnpR; rw [if_pos h]
theorem mnpR_bad {P : Int} {sq xs : List Int} (h : ¬ codeA P sq [xs] = 0) : mnpR P sq xs = ([], codeA P sq [xs]) := by unfold mnpR; rw [if_neg h]
def lenM : Value → Nat
 | .slice _ n _ => n
 | _ => 0
theorem MkII.single {w w4 : World} {A : Option Addr} {m c : Nat} {xs : List Int} (hr : MkI w w4 A m c xs) : MkII w (w4.alloc (.cells #[.slice A m c] 24)) (some ⟨w4.heap.size, 0, none⟩) 1 1 [xs] :=
 ⟨[.slice A m c], Mk.lit hr.1 #[.slice A m c] (by simp [maxLen]), ((Nest.nil w w.heap.size).snoc hr (Nat.le_refl _)).below (zG.alloc (Nat.le_refl _) _)⟩
theorem solR_small {p : Int} {n : Nat} (hp : 0 < p) {M : List (List Int)} (hT : Tab p n M) {v : List Int} (hv : NumsL p v) : NumsL p (solR p M v n).1 ∧ (solR p M v n).1.length ≤ n := by
 unfold solR
 split
 · exact ⟨fun x hx => by simp at hx, by simp⟩
 · exact ⟨solTo_nums hp (basisL_tab hp _ (augL_tab hp hT hv)) _ _, by rw [solTo_len]; exact Nat.le_refl _⟩
/-- What the walk wants of the powers. -/
theorem min_facts {P : Int} {sq xs : List Int} (hP : isP P = true) (hx : xs.length = pw sq.length) (hxn : NumsL P xs) :
    (1 ≤ minK P sq sq.length xs ∧ minK P sq sq.length xs ≤ pw sq.length ∧ (mstR P sq sq.length xs (minK P sq sq.length xs)).2 = true ∧ ∀ j, 1 ≤ j → j < minK P sq sq.length xs → (mstR P sq sq.length xs j).2 = false) ∧
    (∀ k, Tab P (pw sq.length) (pwsL P sq sq.length xs k) ∧ (pwsL P sq sq.length xs k).length = k ∧ (0 < k → Tab P k (transL (pwsL P sq sq.length xs k)))) ∧ ∀ k, (pwrL P sq sq.length xs k).length = pw sq.length ∧ NumsL P (pwrL P sq sq.length xs k) := by
 have h3 := isP_ge hP
 have hp : 0 < P := by omega
 obtain ⟨X, rfl⟩ : ∃ X : Cl P sq, X.l = xs := ⟨⟨xs, hx, hxn, hp⟩, rfl⟩
 refine ⟨minK_spec hP hp X, fun k => ?_, fun k => pwr_nums hp (by omega) X k⟩
 obtain ⟨h1, h2⟩ := pws_tab hp (by omega) X k
 exact ⟨h1, h2, fun _ => by have := transL_tab (p := P) hp h1; rwa [h2] at this⟩
set_option maxHeartbeats 6400000 in
set_option maxRecDepth 8000 in
theorem MinimalPolynomial_any (P : Int) (A : Option Addr) (n c : Nat) (sq : List Int) (X : Option Addr) (m cx : Nat) (xs : List Int) (w : World) (hn : n ≤ 1048576) (hm : m ≤ 1048576) (ha : Rd w A n (ints sq)) (hx : Rd w X m (ints xs)) (hcx : m ≤ cx) :
    Calls Tryz.prog 62 #[.agg #[.int .i64 P, .slice A n c], .slice X m cx] w fun e w' => ∃ (A' : Option Addr) (k c' : Nat), e = .returned (.tuple #[.slice A' k c', .int .i64 (mnpR P sq xs).2]) ∧ MkI w w' A' k c' (mnpR P sq xs).1 := by
 have hB0 : Below w.heap.size w (w.alloc (.cells #[.int .i64 P, .slice A n c] 26)) := zG.alloc (Nat.le_refl _) _
 have k0 : Blk (w.alloc (.cells #[.int .i64 P, .slice A n c] 26)) w.heap.size 26 #[.int .i64 P, .slice A n c] := Blk.new _ _ _
 have hB1 : Below w.heap.size w ((w.alloc (.cells #[.int .i64 P, .slice A n c] 26)).alloc (.cells #[.slice X m cx] 24)) := hB0.alloc (by simp) _
 have k1 : Blk ((w.alloc (.cells #[.int .i64 P, .slice A n c] 26)).alloc (.cells #[.slice X m cx] 24)) w.heap.size 26 #[.int .i64 P, .slice A n c] := k0.alloc _
 have hreg := checkAlgebra_any P A (some ⟨w.heap.size + 1, 0, none⟩) n c 1 1 sq [xs] ((w.alloc (.cells #[.int .i64 P, .slice A n c] 26)).alloc (.cells #[.slice X m cx] 24)) hn (by omega) (ha.below hB1) (rdII_one' (Blk.newAt3 (by simp)) (hx.below hB1) hcx) (all_one (by rw [hx.lenI]; exact hm))
 by_cases hr0 : codeA P sq [xs] = 0
 · rw [hr0] at hreg
   obtain ⟨hcM, h4⟩ := codeA_zero hr0
   obtain ⟨HP, hp, hp2, hd1, hd2, hs, hms⟩ := codeM_spec3 hcM
   obtain ⟨hx1, hxs⟩ := hms xs (by simp)
   have hsl := ha.lenI
   have hmn : m = pw n := by rw [← hx.lenI, hx1, hsl]
   subst hmn
   have hn4 : n ≤ 4 := by omega
   have hpw : pw n ≤ 16 := pw_le hn4
   have hpn := pw_pos n
   obtain ⟨f1, f2, f3⟩ := min_facts HP hx1 hxs
   rw [hsl] at f1 f2 f3
   obtain ⟨L, hL⟩ : ∃ L, L = minL P sq n xs := ⟨_, rfl⟩
   have HOK : Hid (mnpR P sq xs = (L, 0)) := Lib.hid (by rw [mnpR_ok hr0, hsl, hL])
   obtain ⟨K, hKK⟩ : ∃ K, K = minK P sq n xs := ⟨_, rfl⟩
   rw [← hKK] at f1
   have HL : Hid (L = scaleL P (mstR P sq n xs K).1 (-1) ++ [1]) := Lib.hid (by rw [hL, hKK]; rfl)
   have hK1 : 1 ≤ K := f1.1
   have hK2 : K ≤ pw n := f1.2.1
   have HK3 := Lib.hid f1.2.2
   have HF2 := Lib.hid f2
   have HF3 := Lib.hid f3
   have HXL := Lib.hid hx.lenI
   have HXS := Lib.hid hxs
   have HS := Lib.hid hs
   have HPP := Lib.hid HP
   clear hsl hs hxs hx1 hms hd1 hd2 h4 hcM hr0 HP hL hKK f1 f2 f3
   go_enter Tryz.func62, Tryz.ntmps62
   go_wp2_with fail
   refine hreg.mono ?_
   rintro e w2 ⟨rfl, hb2⟩
   have hB2 := hB1.trans (hb2.mono hB1.size)
   have k2 := k1.below hb2 k1.lt
   clear k0 k1 hreg hb2 hB0 hB1
   obtain ⟨q0, q1⟩ := k2.two
   go_wp2_with fail
   refine (one_any P A n c w2 (by omega)).mono ?_
   rintro e w3 ⟨A1, c1, rfl, hM1⟩
   have hM3 := MkII.single (hM1.after hB2)
   have k3 := (k2.below hM1.b k2.lt).alloc (.cells #[.slice A1 (pw n) c1] 24)
   clear q0 q1 k2 hM1
   go_wp2
   go_loopw [7] (fun pv wr => ∃ (k : Nat) (A' : Option Addr) (c' : Nat), 1 ≤ k ∧ k ≤ K ∧ pv = .slice A' k c' ∧ MkII w wr A' k c' (pwsL P sq n xs k) ∧ Blk wr w.heap.size 26 #[.int .i64 P, .slice A n c]) (fun pv _ => K - lenM pv)
   case atStart => exact ⟨1, _, _, by omega, hK1, rfl, hM3, k3⟩
   case round =>
    obtain ⟨k, A', c', hk1, hk2, rfl, hM, k6⟩ := hrel
    clear hM3 k3
    obtain ⟨q, rfl⟩ : ∃ q, k = q + 1 := ⟨k - 1, by omega⟩
    obtain ⟨k, hkq⟩ : ∃ k, k = q + 1 := ⟨_, rfl⟩
    rw [← hkq] at hk1 hk2 hM ⊢
    have hrd := hM.rd
    have hBw := hM.b
    obtain ⟨gp, op_, rfl, hxk, Ak, ck, hck, hrk, hcc⟩ := hrd.at_ (show q < k by omega)
    have hrow : (pwsL P sq n xs k)[q] = pwrL P sq n xs q := by
     rw [← getD_of_lt [] hxk]
     unfold pwsL
     rw [tab_getD (by omega)]
    rw [hrow, (HF3.out q).1] at hck hrk hcc
    obtain ⟨PQ, hPQ⟩ : ∃ X, X = pwrL P sq n xs q := ⟨_, rfl⟩
    obtain ⟨PK, hPK⟩ : ∃ X, X = pwrL P sq n xs k := ⟨_, rfl⟩
    have hpk : mulL P sq PQ xs = PK := by rw [hPQ, hPK, hkq]; rfl
    have hq3 := HF3.out q
    rw [← hPQ] at hrk hq3
    have HPQ := Lib.hid hrk
    have HXR := Lib.hid (hx.below hBw)
    have HAR := Lib.hid (ha.below hBw)
    have HAL : Hid (∀ ys ∈ [PQ, xs], NumsL P ys ∧ ys.length = pw n) := Lib.hid (all_two ⟨hq3.2, hq3.1⟩ ⟨HXS.out, HXL.out⟩)
    have HTL : Hid (timesL P sq n [PQ, xs] = PK) := Lib.hid (by rw [timesL_two P sq n PQ xs hq3.1 hq3.2, hpk])
    have HPK := Lib.hid hPK
    have HM := Lib.hid hM
    have hk16 : k ≤ 16 := by omega
    have W1 : IntKind.i64.wrap ((k : Int) - 1) = (q : Int) := by rw [i64_fit _ (by omega) (by omega)]; omega
    have i1 : (0 : Int) ≤ (q : Int) := by omega
    have i2 : (q : Int) < (k : Int) := by omega
    have HKQ := Lib.hid hkq
    clear hrow hxk hPQ hPK hpk hq3 hrk hM hkq
    obtain ⟨q0, q1⟩ := k6.two
    go_wp2
    refine wp_obs 11 [[],[],[],[2],[2,3],[1,2,3,4],[1,2,3,4,5],[],[1,2,3,4,5,6,7],[0,1,2,3,4,5,6,7,8],[0,1,2,3,4,5,6,7,8,9]] [VIs (.agg #[.int .i64 P, .slice A n c]), VIs (.slice (some ⟨gp, op_, none⟩) k c'), VIs (.slice (some ⟨gp, op_, none⟩) k c'), VIs (.int .i64 (k)), VIs (.int .i64 (q)), VIs (.pointer (some ⟨gp, op_ + q, none⟩)), VIs (.slice Ak (pw n) ck), VIs (.slice X (pw n) cx), VRow 2 [PQ, xs], VSl wr (pw n) PK, VSl wr (pw n) PK] (fun w' => w'.cell? ⟨gp, op_ + q, none⟩ = some (.slice Ak (pw n) ck) ∧ Blk w' w.heap.size 26 #[.int .i64 P, .slice A n c] ∧ Below wr.heap.size wr w') (by kernel_rfl) (by kernel_rfl) (fun _ _ h hb => ⟨(hb.cell (World.block_lt_of_cell? _ _ h.1)).trans h.1, h.2.1.below hb h.2.1.lt, h.2.2.trans (hb.mono h.2.2.size)⟩) (⟨hck, k6.drew, zG.drew⟩) (fun x => ?_)
    refine zS (fun w' hS hV K hK => ?_) ?_
    · have q2 := hS.1; obtain ⟨q0, q1⟩ := hS.2.1.two; go_simp; exact zO hK
    refine zS (fun w' hS hV K hK => ?_) ?_
    · have q2 := hS.1; obtain ⟨q0, q1⟩ := hS.2.1.two; go_simp; exact zO hK
    refine zS (fun w' hS hV K hK => ?_) ?_
    · have q2 := hS.1; obtain ⟨q0, q1⟩ := hS.2.1.two; go_simp; exact zO hK
    refine zS (fun w' hS hV K hK => ?_) ?_
    · have e2 := zQ hV 2; have q2 := hS.1; obtain ⟨q0, q1⟩ := hS.2.1.two; go_simp; exact zO hK
    refine zS (fun w' hS hV K hK => ?_) ?_
    · have e3 := zQ hV 3; have q2 := hS.1; obtain ⟨q0, q1⟩ := hS.2.1.two; go_simp; exact zO hK
    refine zS (fun w' hS hV K hK => ?_) ?_
    · have e1 := zQ hV 1; have e4 := zQ hV 4; have q2 := hS.1; obtain ⟨q0, q1⟩ := hS.2.1.two; go_simp; exact zO hK
    refine zS (fun w' hS hV K hK => ?_) ?_
    · have e5 := zQ hV 5; have q2 := hS.1; obtain ⟨q0, q1⟩ := hS.2.1.two; go_simp; exact zO hK
    refine zS (fun w' hS hV K hK => ?_) ?_
    · have q2 := hS.1; obtain ⟨q0, q1⟩ := hS.2.1.two; go_simp; exact zO hK
    refine zS (fun w' hS hV K hK => ?_) ?_
    · have e6 := zQ hV 6; have e7 := zQ hV 7; have q2 := hS.1; obtain ⟨q0, q1⟩ := hS.2.1.two; go_simp; exact hK.out _ _ _ rfl rfl ⟨_, _, rfl, rdII_two (Blk.new w' 24 _) ((HPQ.out.below hS.2.2).below (zG.alloc (Nat.le_refl _) _)) ((HXR.out.below hS.2.2).below (zG.alloc (Nat.le_refl _) _)) hcc hcx⟩ (zG.alloc (Nat.le_refl _) _)
    refine zS (fun w' hS hV K hK => ?_) ?_
    · have e0 := zQ hV 0; obtain ⟨A8, c8, e8, h8⟩ := hV 8 (by decide); have q2 := hS.1; obtain ⟨q0, q1⟩ := hS.2.1.two; go_simp; have htm := times_any P A n c sq A8 2 c8 [PQ, xs] w' (by omega) hp2 (by omega) (by omega) (HAR.out.below hS.2.2) HS.out h8 HAL.out; rw [HTL.out] at htm; refine htm.mono ?_; rintro e v1 ⟨A9, c9, rfl, hM⟩; exact hK.out _ _ _ rfl rfl ⟨_, _, rfl, hM.after hS.2.2⟩ hM.b
    refine zS (fun w' hS hV K hK => ?_) ?_
    · obtain ⟨A8, c8, e8, h8⟩ := hV 8 (by decide); obtain ⟨A9, c9, e9, h9⟩ := hV 9 (by decide); have q2 := hS.1; obtain ⟨q0, q1⟩ := hS.2.1.two; go_simp; exact hK.out _ _ _ rfl rfl ⟨_, _, rfl, h9⟩ zG
    refine fun w' hS hV => ?_
    have e0 := zT hV 0
    have e1 := zT hV 1
    have e2 := zT hV 2
    have e3 := zT hV 3
    have e4 := zT hV 4
    have e5 := zT hV 5
    have e6 := zT hV 6
    have e7 := zT hV 7
    obtain ⟨A8, c8, e8, h8⟩ := hV 8 (by decide)
    obtain ⟨A9, c9, e9, h9⟩ := hV 9 (by decide)
    obtain ⟨A10, c10, e10, h10⟩ := hV 10 (by decide)
    simp only [e0, e1, e2, e3, e4, e5, e6, e7, e8, e9, e10]
    clear e0 e1 e2 e3 e4 e5 e6 e7 e8 e9 e10
    refine wpAny_done (by kernel_rfl) ?_ _
    obtain ⟨w18, hw18⟩ : ∃ W, W = w' := ⟨_, rfl⟩
    rw [← hw18] at hS h10 ⊢
    have k7 := hS.2.1
    have hb18 := hS.2.2
    have HPR := Lib.hid h10
    have hrd2 := hrd.below hb18
    obtain ⟨AK, hAK⟩ : ∃ a, a = A10 := ⟨_, rfl⟩
    obtain ⟨cK, hcK⟩ : ∃ a, a = c10 := ⟨_, rfl⟩
    rw [← hAK, ← hcK] at HPR ⊢
    clear hS q0 q1 hw18 h10 hck k6 W1 hAK hcK hrd hcc i1 i2
    obtain ⟨q0, q1⟩ := k7.two
    go_wp2_with fail
    refine (field_any P A n c w18).mono ?_
    rintro e w19 ⟨rfl, hb7⟩
    have HT := HF2.out k
    have htr := transpose_any P (some ⟨gp, op_, none⟩) k c' (pwsL P sq n xs k) (pw n) w19 (by omega) (by omega) (by omega) (hrd2.below hb7) HT.1
    have k8 := k7.below hb7 k7.lt
    have hb19 := hb18.trans (hb7.mono hb18.size)
    have hPR9 := HPR.out.below hb7
    clear hb7 q0 q1 k7 hb18 hrd2
    go_wp2_with fail
    refine htr.mono ?_
    rintro e w20 ⟨At, ct, rfl, hMt⟩
    have hb20 := hb19.trans (hMt.b.mono hb19.size)
    have k9 := k8.below hMt.b k8.lt
    have hPR := hPR9.below hMt.b
    have hpn9 : NumsL P PK := by rw [HPK.out]; exact (HF3.out k).2
    have hTT := HT.2.2 (by omega)
    have hsv := solve_any P At (pw n) ct (transL (pwsL P sq n xs k)) k AK cK PK w20 HPP.out hpn (by omega) (by omega) (by omega) hMt.rd hTT hPR.rd hpn9
    have hsn := solR_small (show 0 < P by omega) hTT hpn9
    have hsm : solR P (transL (pwsL P sq n xs k)) PK k = mstR P sq n xs k := by rw [HPK.out]; rfl
    rw [hsm] at hsv hsn
    obtain ⟨⟨y, b⟩, hyb⟩ : ∃ R, R = mstR P sq n xs k := ⟨_, rfl⟩
    rw [← hyb] at hsv hsn
    have HYB := Lib.hid hyb
    have HSN := Lib.hid hsn
    clear hMt hPR9 htr HT hTT hsm hyb hsn hpn9 k8 hb19 HPR
    go_wp2_with fail
    refine hsv.mono ?_
    rintro e w21 ⟨A9, k9', c9, rfl, hM9⟩
    have hb21 := hb20.trans (hM9.b.mono hb20.size)
    have k10 := k9.below hM9.b k9.lt
    have hPR2 := hPR.below hM9.b
    have hy9 : y.length = k9' := hM9.rd.lenI
    clear hsv hPR k9 hb20
    obtain ⟨q0, q1⟩ := k10.two
    cases b with
    | true =>
     have hkK : k = K := by
      rcases Nat.lt_or_ge k K with h | h
      · have h9 := HK3.out.2 k hk1 h
        rw [← HYB.out] at h9; cases h9
      · omega
     have hyk : y.length ≤ k := HSN.out.2
     have HLE : Hid (L = scaleL P y (-1) ++ [1]) := Lib.hid (by rw [HL.out, ← hkK, ← HYB.out])
     have HBB := Lib.hid (hBw.trans (hb21.mono hBw.size))
     clear hkK
     go_wp2_with fail
     refine (field_any P A n c w21).mono ?_
     rintro e w22 ⟨rfl, hb7⟩
     have hcall := scaled_any P A9 k9' c9 (-1) y w22 hp hp2 (by omega) (hM9.rd.below hb7) HSN.out.1 (by omega) (by omega)
     clear q0 q1
     go_wp2_with fail
     refine hcall.mono ?_
     rintro e w23 ⟨Az, cz, rfl, hMz⟩
     have HZ := Lib.hid (hMz.after (HBB.out.trans (hb7.mono HBB.out.size)))
     clear hcall hMz hb7 hM9
     go_wp2_with (at_builtin; refine wpList_app1 w _ 24 2 _ _ Tryz.underlying24 info_i rfl (by omega) rfl _ _ rfl Az k9' cz _ _ HZ.out (by omega) rfl rfl rfl ?_; intro A4 c4 w4 hM4 _ _)
     go_ret2
     have hM5 : MkI w w4 A4 (k9' + 1) c4 L := by rw [HLE.out]; unfold MkI; rw [show ints (scaleL P y (-1) ++ [1]) = ints (scaleL P y (-1)) ++ [.int .i64 1] by simp [ints]]; exact hM4
     exact aRow3 HOK.out hM5
    | false =>
     have hkK : k + 1 ≤ K := by
      rcases Nat.lt_or_ge k K with h | h
      · exact h
      · have h9 := HK3.out.1
        rw [show K = k by omega, ← HYB.out] at h9; cases h9
     have hPS : Hid (pwsL P sq n xs (k + 1) = pwsL P sq n xs k ++ [PK]) := Lib.hid (by rw [HPK.out]; unfold pwsL; rw [tab_succ])
     clear q0 q1 hM9
     go_wp2_with (at_builtin; refine wpList_appRowG w wr _ rfl _ _ rfl (some ⟨gp, op_, none⟩) k c' _ AK (pw n) cK _ HM.out hPR2 (by omega) rfl ?_ ?_; (go_simp); intro A20 c20 w24 hM20 hg20 hat20)
     have k11 := k10.grown hg20 ((HM.out.below hb21).ne_blk k10 (by decide))
     clear hg20 hat20 k10
     go_roundw
     case rel => exact ⟨k + 1, A20, c20, by omega, hkK, rfl, by rw [hPS.out]; exact hM20, k11⟩
     case measure => simp [lenM]; omega
 · obtain ⟨r, hr⟩ : ∃ r, r = codeA P sq [xs] := ⟨_, rfl⟩
   have HR := Lib.hid hr
   have HR0 := Lib.hid hr0
   have b0 : (r != 0) = true := code_ne (by rw [hr]; exact hr0)
   rw [← hr] at hreg
   clear hr hr0
   go_enter Tryz.func62, Tryz.ntmps62
   go_wp2_with fail
   refine hreg.mono ?_
   rintro e w2 ⟨rfl, hb2⟩
   have hB2 := hB1.trans (hb2.mono hB1.size)
   go_wp2
   go_ret2
   exact noRow3 (by rw [mnpR_bad HR0.out, HR.out]) hB2
set_option maxHeartbeats 6400000 in
set_option maxRecDepth 8000 in
theorem l02Solve_any (p : Int) (A : Option Addr) (r c : Nat) (M : List (List Int)) (n : Nat) (V : Option Addr) (cv : Nat) (v : List Int) (w : World) (HP : isP p = true) (h0 : 0 < r) (hr : r ≤ 1000) (hn0 : 0 < n) (hn : n ≤ 1000) (ha : RdII w A r M) (hT : Tab p n M) (hv : Rd w V r (ints v)) (hvn : NumsL p v) :
    Calls Tryz.prog 164 #[.int .i64 p, .slice A r c, .slice V r cv] w fun e w' => ∃ (A' : Option Addr) (k c' : Nat), e = .returned (.tuple #[.slice A' k c', .bool (solR p M v n).2]) ∧ MkI w w' A' k c' (solR p M v n).1 := by
 obtain ⟨hp3, hp2⟩ := isP_ge HP
 have hl := ha.len
 have HAT := Lib.hid (augL_tab (show 0 < p by omega) hT hvn)
 have HM := Lib.hid hT
 have HL := Lib.hid hl
 have HPP := Lib.hid HP
 obtain ⟨R, hR⟩ : ∃ R, R = solR p M v n := ⟨_, rfl⟩
 rw [← hR]
 have HR := Lib.hid hR
 have hA0 : Below w.heap.size w (w.alloc (.cells #[] 24)) := zG.alloc (Nat.le_refl _) _
 have hO0 : MkII w (w.alloc (.cells #[] 24)) (some ⟨w.heap.size, 0, none⟩) 0 0 [] := MkII.empty zG
 have hE0 : Blk (w.alloc (.cells #[] 24)) w.heap.size 24 #[] := Blk.new _ _ _
 have a3 := ha.below hA0
 have v3 := hv.below hA0
 obtain ⟨gz, oz, rfl, hxz, Az, cz, hcz, -, -⟩ := ha.at_ h0
 have hlz : M[0].length = n := (HM.out M[0] (List.getElem_mem hxz)).1
 rw [hlz, Nat.add_zero] at hcz
 have HCZ := Lib.hid hcz
 have hgr0 : Grows (w.alloc (.cells #[] 24)) (w.alloc (.cells #[] 24)) w.heap.size (.slice (some ⟨w.heap.size, 0, none⟩) 0 0) := ⟨CK.refl _, Nat.le_refl _, fun gb h => .inl (by simpa [Value.ownBlock] using h.symm)⟩
 clear hl HP hR hT hvn hlz hxz ha hv hcz
 go_enter Tryz.func164, Tryz.ntmps164
 go_wp2
 obtain ⟨w3, hw3⟩ : ∃ W, W = w.alloc (.cells #[] 24) := ⟨_, rfl⟩
 rw [← hw3] at hO0 hE0 hgr0 a3 v3 hA0 ⊢
 obtain ⟨g3, hg3⟩ : ∃ g, g = w.heap.size := ⟨_, rfl⟩
 rw [← hg3] at hO0 hE0 hgr0 ⊢
 clear hw3 hg3
 go_loopw [8, 9] (fun out i wr => ∃ (k : Nat) (A' : Option Addr) (c' : Nat), k ≤ r ∧ i = .int .i64 k ∧ out = .slice A' k c' ∧ MkII w wr A' k c' (tab k fun i => M.getD i [] ++ [v.getD i 0]) ∧ Grows w3 wr g3 (.slice A' k c')) (fun _ i _ => r - (intOf i).toNat)
 case atStart => exact ⟨0, _, _, by omega, rfl, rfl, hO0, hgr0⟩
 case round =>
  obtain ⟨k, A', c', hk, rfl, rfl, hM, hgr⟩ := hrel
  clear hO0 hgr0
  by_cases hlt : k < r
  · have hBn := hM.b
    obtain ⟨ga, oa, e9, hxk, Ak, ck, hck, hrk, hcc⟩ := (a3.ck hgr.1).at_ hlt
    cases e9
    obtain ⟨gv, ov, rfl, hvk, hcv⟩ := (v3.ck hgr.1).int hlt
    have hlk : M[k].length = n := (HM.out M[k] (List.getElem_mem hxk)).1
    rw [hlk] at hck hrk hcc
    have HAP : Hid ((tab (k + 1) fun i => M.getD i [] ++ [v.getD i 0]) = (tab k fun i => M.getD i [] ++ [v.getD i 0]) ++ [M[k] ++ [v[k]]]) := Lib.hid (by rw [tab_succ, getD_of_lt [] hxk, getD_of_lt 0 hvk])
    obtain ⟨X, hX⟩ : ∃ X, X = M[k] := ⟨_, rfl⟩
    obtain ⟨y, hy⟩ : ∃ y, y = v[k] := ⟨_, rfl⟩
    rw [← hX] at hrk HAP
    rw [← hy] at hcv HAP
    have HOWN := Lib.hid fun (w' : World) (h : Below wr.heap.size wr w') => l01Own_any Ak n ck X w' (by omega) (hrk.below h)
    have HMM := Lib.hid hM
    have HGR := Lib.hid hgr
    have i1 : (0 : Int) ≤ (k : Int) := by omega
    have i2 : (k : Int) < (r : Int) := by omega
    clear hX hy hxk hvk hrk hlk hM hgr hcc
    go_wp2
    refine wp_obsD 13 wr.heap.size [[], [], [], [1, 2], [1, 2, 3], [1, 2, 3, 4], [], [], [6, 7], [6, 7, 8], [6, 7, 8, 9], [1, 2, 3, 4, 5, 6, 7, 8, 9, 10], [1, 2, 3, 4, 5, 6, 7, 8, 9, 10, 11], [0, 1, 2, 3, 4, 5, 6, 7, 8, 9, 10, 11, 12], [0, 1, 2, 3, 4, 5, 6, 7, 8, 9, 10, 11, 12, 13]] [[], [], [], [], [], [], [], [], [], [], [], [5, 10], []] (fun x => [VIs (.slice A' k c'), VIs (.slice (some ⟨gz, oz, none⟩) r c), VIs (.int .i64 (k)), VIs (.pointer (some ⟨gz, oz + k, none⟩)), VIs (.slice Ak n ck), VSl wr n X, VIs (.slice (some ⟨gv, ov, none⟩) r cv), VIs (.int .i64 (k)), VIs (.pointer (some ⟨gv, ov + k, none⟩)), VIs (.int .i64 (y)), VOn y, VSl wr (n + 1) (X ++ [y]), VNew wr (n + 1) (X ++ [y])]) (fun w' => w'.cell? ⟨gz, oz + k, none⟩ = some (.slice Ak n ck) ∧ w'.cell? ⟨gv, ov + k, none⟩ = some (.int .i64 y) ∧ Below wr.heap.size wr w') (by kernel_rfl) (by kernel_rfl) (fun x x' j hx => by
        rcases j with _ | _ | _ | _ | _ | _ | _ | _ | _ | _ | _ | _ | _ | j
        · rfl
        · rfl
        · rfl
        · rfl
        · rfl
        · rfl
        · rfl
        · rfl
        · rfl
        · rfl
        · rfl
        · rfl
        · rfl
        · rfl)
     (weak_of [0, 1, 2, 3, 4, 6, 7, 8, 9] (by decide) (fun k hk x => by
      simp only [List.mem_cons, zJ, or_false] at hk
      rcases hk with rfl | rfl | rfl | rfl | rfl | rfl | rfl | rfl | rfl <;> exact ⟨_, rfl⟩)) (fun j _ _ h hb => ⟨(hb.cell (lim_lt (World.block_lt_of_cell? _ _ hck) h.2.2.size)).trans h.1, (hb.cell (lim_lt (World.block_lt_of_cell? _ _ hcv) h.2.2.size)).trans h.2.1, h.2.2.trans (hb.mono (lim_ge h.2.2.size))⟩) (⟨hck, hcv, zG.drew⟩) (fun x => ?_)
    refine obs_stepD (Eq.trans (by simp only [zA, zC]; exact rfl) rfl) rfl (fun w' hS hV K hK => ?_) ?_
    · have q0 := hS.1; have q1 := hS.2.1; go_simp; exact hK.out _ _ _ rfl rfl rfl zG
    simp only [zD, zE, zF]
    refine obs_stepD (Eq.trans (by simp only [zA, zB, zC]; exact rfl) rfl) rfl (fun w' hS hV K hK => ?_) ?_
    · have q0 := hS.1; have q1 := hS.2.1; go_simp; exact hK.out _ _ _ rfl rfl rfl zG
    simp only [zD, zE, zF]
    refine obs_stepD (Eq.trans (by simp only [zA, zB, zC]; exact rfl) rfl) rfl (fun w' hS hV K hK => ?_) ?_
    · have q0 := hS.1; have q1 := hS.2.1; go_simp; exact hK.out _ _ _ rfl rfl rfl zG
    simp only [zD, zE, zF]
    refine obs_stepD (Eq.trans (by simp only [zA, zB, zC]; exact rfl) rfl) rfl (fun w' hS hV K hK => ?_) ?_
    · have e1 := zQ hV 1; have e2 := zQ hV 2; have q0 := hS.1; have q1 := hS.2.1; go_simp; exact hK.out _ _ _ rfl rfl rfl zG
    simp only [zD, zE, zF]
    refine obs_stepD (Eq.trans (by simp only [zA, zB, zC]; exact rfl) rfl) rfl (fun w' hS hV K hK => ?_) ?_
    · have e3 := zQ hV 3; have q0 := hS.1; have q1 := hS.2.1; go_simp; exact hK.out _ _ _ rfl rfl rfl zG
    simp only [zD, zE, zF]
    refine obs_stepD (Eq.trans (by simp only [zA, zB, zC]; exact rfl) rfl) rfl (fun w' hS hV K hK => ?_) ?_
    · have e4 := zQ hV 4; have q0 := hS.1; have q1 := hS.2.1; go_simp; refine (HOWN.out _ hS.2.2).mono ?_; rintro e v1 ⟨A9, c9, rfl, hM⟩; exact hK.out _ _ _ rfl rfl ⟨_, _, rfl, hM.after hS.2.2⟩ hM.b
    simp only [zD, zE, zF]
    refine obs_stepD (Eq.trans (by simp only [zA, zB, zC]; exact rfl) rfl) rfl (fun w' hS hV K hK => ?_) ?_
    · have q0 := hS.1; have q1 := hS.2.1; go_simp; exact hK.out _ _ _ rfl rfl rfl zG
    simp only [zD, zE, zF]
    refine obs_stepD (Eq.trans (by simp only [zA, zB, zC]; exact rfl) rfl) rfl (fun w' hS hV K hK => ?_) ?_
    · have q0 := hS.1; have q1 := hS.2.1; go_simp; exact hK.out _ _ _ rfl rfl rfl zG
    simp only [zD, zE, zF]
    refine obs_stepD (Eq.trans (by simp only [zA, zB, zC]; exact rfl) rfl) rfl (fun w' hS hV K hK => ?_) ?_
    · have e6 := zQ hV 6; have e7 := zQ hV 7; have q0 := hS.1; have q1 := hS.2.1; go_simp; exact hK.out _ _ _ rfl rfl rfl zG
    simp only [zD, zE, zF]
    refine obs_stepD (Eq.trans (by simp only [zA, zB, zC]; exact rfl) rfl) rfl (fun w' hS hV K hK => ?_) ?_
    · have e8 := zQ hV 8; have q0 := hS.1; have q1 := hS.2.1; go_simp; exact hK.out _ _ _ rfl rfl rfl zG
    simp only [zD, zE, zF]
    refine obs_stepD (Eq.trans (by simp only [zA, zB, zC]; exact rfl) rfl) rfl (fun w' hS hV K hK => ?_) ?_
    · have e9 := zQ hV 9; have q0 := hS.1; have q1 := hS.2.1; go_simp; exact hK.out _ _ _ rfl rfl ⟨_, rfl, rd_one _ _⟩ (zG.alloc (Nat.le_refl _) _)
    simp only [zD, zE, zF]
    refine obs_stepD (Eq.trans (by simp only [zA, zB, zC]; exact rfl) rfl) rfl (fun w' hS hV K hK => ?_) ?_
    · obtain ⟨A5, c5, e5, h5⟩ := hV 5 (by decide); obtain ⟨g10, e10, r10⟩ := hV 10 (by decide); have q0 := hS.1; have q1 := hS.2.1; refine wp_appAll wr w' _ _ rfl A5 n c5 X (some ⟨g10, 0, none⟩) 1 1 [y] h5 r10 (by omega) (by omega) (by omega) e5 e10 ?_; intro A20 c20 w20 hM20 hg20; exact hK.out _ _ _ rfl rfl ⟨_, _, rfl, hM20⟩ (h5.grown_below hg20)
    simp only [zD, zE, zF]
    refine obs_stepD (Eq.trans (by simp only [zA, zB, zC]; exact rfl) rfl) rfl (fun w' hS hV K hK => ?_) ?_
    · obtain ⟨A11, c11, e11, h11⟩ := hV 11 (by decide); have q0 := hS.1; have q1 := hS.2.1; go_simp; exact hK.out _ _ _ rfl rfl ⟨_, _, _, rfl, Blk.new _ _ _, h11.below (zG.alloc (Nat.le_refl _) _)⟩ (zG.alloc (Nat.le_refl _) _)
    simp only [zD, zE, zF]
    refine fun w' hS hV => ?_
    have e0 := zQ hV 0
    have e1 := zQ hV 1
    have e2 := zQ hV 2
    have e3 := zQ hV 3
    have e4 := zQ hV 4
    have e6 := zQ hV 6
    have e7 := zQ hV 7
    have e8 := zQ hV 8
    have e9 := zQ hV 9
    obtain ⟨A11, c11, e11, h11⟩ := hV 11 (by decide)
    obtain ⟨g12, A12, c12, e12, b12, h12⟩ := hV 12 (by decide)
    simp only [e0, e1, e2, e3, e4, e6, e7, e8, e9, e11, e12]
    clear e0 e1 e2 e3 e4 e6 e7 e8 e9 e11 e12
    obtain ⟨-, -, s2⟩ := hS
    refine any_plain (j := 13) (by kernel_rfl) (Eq.trans (by simp only [zA, zB, zC]; exact rfl) rfl) rfl (fun K hK => ?_)
    refine wp_appRow w wr w' _ _ rfl A' k c' _ A12 (n + 1) c12 _ HMM.out h12 (by omega) g12 b12 (by rfl) (by rfl) ?_
    intro A20 c20 w20 hM20 hg20 hat20
    refine hK.out _ _ ?_
    simp only [Act.put, zD, zE, zF]
    refine any_one (j := 14) (by kernel_rfl) (Eq.trans (by simp only [zA, zB, zC]; exact rfl) rfl) (fun K hK => ?_)
    go_simp
    refine hK.out _ _ (wpAny_done (by kernel_rfl) ?_ _)
    have hgr7 := HGR.out.step (n' := k + 1) (c' := c20) hE0 s2 hg20 hat20
    clear hg20 hat20 s2
    go_wp2
    go_roundw
    case rel => exact ⟨k + 1, A20, c20, by omega, by go_num, rfl, by rw [HAP.out]; exact hM20, hgr7⟩
    case measure => simp [intOf]; omega
  · obtain rfl : k = r := by omega
    clear a3 v3 hE0 hgr hA0
    have hAug : (tab k fun i => M.getD i [] ++ [v.getD i 0]) = augL M v := by unfold augL; rw [HL.out]
    rw [hAug] at hM
    have hcall := l02Basis_any p A' k c' (augL M v) (n + 1) wr HPP.out (by omega) (by omega) hM.rd HAT.out
    have hBw := hM.b
    obtain ⟨B, hB⟩ : ∃ B, B = basisL p (augL M v) := ⟨_, rfl⟩
    rw [← hB] at hcall
    have HB := Lib.hid hB
    have HBT : Hid (Tab p (n + 1) B) := Lib.hid (by rw [hB]; exact basisL_tab (by omega) _ HAT.out)
    have HBR : Hid (Red (n + 1) B) := Lib.hid (by rw [hB]; exact basisL_red HPP.out _ HAT.out)
    clear hM hAug hB
    go_wp2_with fail
    refine hcall.mono ?_
    rintro e wB ⟨AB, cB, rfl, hMB⟩
    have hrB := hMB.rd
    have hBB := hBw.trans (hMB.b.mono hBw.size)
    have hcz : wB.cell? ⟨gz, oz, none⟩ = some (.slice Az n cz) := (hBB.cell (World.block_lt_of_cell? _ _ HCZ.out)).trans HCZ.out
    have i0 : (0 : Int) < (k : Int) := by omega
    have hmk := make_i (P := Tryz.prog) 24 2 Tryz.underlying24 info_i n (by omega)
    have hQ := Mk.made (E := 2) (n := n) (z := .int .i64 0) hBB (by simp only [maxLen]; omega)
    rw [ints_replicate] at hQ
    have hb5 : Below wB.heap.size wB (wB.alloc (.cells (madeCells #[.int .i64 0] n) 2)) := zG.alloc (Nat.le_refl _) _
    have hQb := Mk.made (E := 2) (n := n) (z := .int .i64 0) (Below.refl wB.heap.size wB) (by simp only [maxLen]; omega)
    rw [ints_replicate] at hQb
    have hkb : B.length ≤ 1001 := Nat.le_trans HBR.out.len (by omega)
    clear hcall hMB hBw hQ hb5
    go_wp2
    clear hmk hcz i0
    go_loopw [12] (fun i wr => ∃ j : Nat, j ≤ B.length ∧ i = .int .i64 j ∧ MkI wB wr (some ⟨wB.heap.size, 0, none⟩) n n (solTo B n j) ∧ endB B n j = false) (fun i _ => B.length - (intOf i).toNat)
    case atStart => exact ⟨0, by omega, rfl, hQb, rfl⟩
    case round =>
     obtain ⟨j, hj, rfl, hQj, hej⟩ := hrel
     clear hQb
     by_cases hjt : j < B.length
     · obtain ⟨gb, ob, rfl, hxj, Aj, cj, hcj, hrj, hccj⟩ := (hrB.below hQj.b).at_ hjt
       have hlj : B[j].length = n + 1 := (HBT.out B[j] (List.getElem_mem hxj)).1
       have hBj : B.getD j [] = B[j] := getD_of_lt [] hxj
       have hld := firstL_ld HBR.out hjt hlj
       rw [hlj] at hcj hrj hccj
       have hlead := l02First_any Aj (n + 1) cj B[j] wr (by omega) hrj
       rw [hld] at hlead
       have hlt := HBR.out.lt j hjt
       obtain ⟨gj, oj, rfl, hyk, hcy⟩ := hrj.int (show n < n + 1 by omega)
       have hen : B[j][n] = ent B j n := by unfold ent; rw [hBj, getD_of_lt 0 hyk]
       rw [hen] at hcy
       have HSX : Hid (solTo B n (j + 1) = (solTo B n j).set (ld B j) (ent B j n)) := Lib.hid rfl
       have hes := endB_succ B n j
       rw [hej, Bool.false_or] at hes
       obtain ⟨y, hy⟩ : ∃ y, y = ld B j := ⟨_, rfl⟩
       obtain ⟨z, hz⟩ : ∃ z, z = ent B j n := ⟨_, rfl⟩
       rw [← hy] at hlead hlt HSX hes
       rw [← hz] at hcy HSX
       clear hy hz hen hyk hld hBj hlj hxj hrj hccj
       have HES := Lib.hid hes
       have j1 : (0 : Int) ≤ (j : Int) := by omega
       have j2 : (j : Int) < (B.length : Int) := by omega
       clear hes
       go_wp2_with fail
       refine hlead.mono ?_
       rintro e w7 ⟨rfl, rfl⟩
       clear hlead
       by_cases hyn : y = n
       · have t1 : ((y : Int) == (n : Int)) = true := by simp [hyn]
         have hend : endB B n B.length = true := endB_more (k := j + 1) (by rw [HES.out, hyn]; simp) (by omega)
         have HRE : Hid (R = ([], false)) := Lib.hid (by rw [HR.out]; unfold solR; rw [← HB.out, hend]; rfl)
         clear hend
         go_wp2
         go_ret2
         exact ret_sol HRE.out (Mk.nil (hBB.trans (hQj.b.mono hBB.size)))
       · have t1 : ((y : Int) == (n : Int)) = false := by simp; omega
         have hend : endB B n (j + 1) = false := by rw [HES.out]; simp [hyn]
         have HEND := Lib.hid hend
         have hyl : y < n := by omega
         obtain ⟨hoc, hof⟩ := mkI_at hQj hyl
         have hset := (hQj.set y (.int .i64 z)).1
         rw [ints_set, ← HSX.out] at hset
         have HSET := Lib.hid hset
         have i3 : (0 : Int) ≤ (y : Int) := by omega
         have i4 : (y : Int) < (n : Int) := by omega
         have i5 : (n : Int) < ((n + 1 : Nat) : Int) := by omega
         clear hset hend HES hyn
         go_wp2
         go_roundw
         case rel => exact ⟨j + 1, by omega, by go_num, HSET.out, HEND.out⟩
         case measure => simp [intOf]; omega
     · obtain rfl : j = B.length := by omega
       have HRE : Hid (R = (solTo B n B.length, true)) := Lib.hid (by rw [HR.out]; unfold solR; rw [← HB.out, hej]; rfl)
       go_wp2
       go_ret2
       exact ret_sol HRE.out (hQj.after hBB)
end Go.Proofs.YtmkjdpnoloofjaaGreat

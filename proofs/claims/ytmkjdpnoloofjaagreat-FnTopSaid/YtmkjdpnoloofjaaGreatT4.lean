/-
  LawFnTop: part 4 of the texts that the proof needs. No condition.
-/
import Derived.Test.YtmkjdpnoloofjaaGreatT3
namespace Go.Proofs.YtmkjdpnoloofjaaGreat
theorem cg_add {p a b c d : Int} (h : a % p = b % p) (h' : c % p = d % p) : (a + c) % p = (b + d) % p := by rw [Int.add_emod, h, h', ← Int.add_emod]
theorem cg_mul {p a b c d : Int} (h : a % p = b % p) (h' : c % p = d % p) : a * c % p = b * d % p := by rw [Int.mul_emod, h, h', ← Int.mul_emod]
theorem cg_self (p a : Int) : a % p % p = a % p := Int.emod_emod_of_dvd _ (Int.dvd_refl p)
theorem sumTo_two {n : Nat} {f : Nat → Int} (a b : Nat) (ha : a < n) (hb : b < n) (hab : a ≠ b) (h : ∀ i, i < n → i ≠ a → i ≠ b → f i = 0) : sumTo n f = f a + f b := by
 have e : sumTo n f = sumTo n (fun i => (if i = a then f i else 0) + (if i = a then 0 else f i)) := sumTo_congr fun i _ => by split <;> omega
 rw [e, sumTo_add, sumTo_one (f := fun i => if i = a then f i else 0) a ha (fun i _ hi => if_neg hi), sumTo_one (f := fun i => if i = a then 0 else f i) b hb (fun i hi hib => by
  by_cases hia : i = a
  · exact if_pos hia
  · simp only [if_neg hia]; exact h i hi hia hib)]
 rw [if_pos rfl, if_neg (Ne.symm hab)]
theorem getD_app_left {α : Type} (d : α) {xs : List α} (ys : List α) {i : Nat} (h : i < xs.length) : (xs ++ ys).getD i d = xs.getD i d := by
 rw [getD_of_lt d h, getD_of_lt d (by rw [List.length_append]; omega), List.getElem_append_left h]
theorem getD_app_right {α : Type} (d : α) (xs ys : List α) (i : Nat) : (xs ++ ys).getD (xs.length + i) d = ys.getD i d := by
 by_cases h : i < ys.length
 · rw [getD_of_lt d h, getD_of_lt d (by rw [List.length_append]; omega), List.getElem_append_right (by omega)]
   congr 1; omega
 · rw [getD_of_ge d (show ys.length ≤ i by omega), getD_of_ge d (show (xs ++ ys).length ≤ xs.length + i by rw [List.length_append]; omega)]
/-- A sum of multiples of the rows. -/
def Sp (p : Int) (n : Nat) (m : List (List Int)) (v : Nat → Int) : Prop := ∃ c : Nat → Int, ∀ q, q < n → v q % p = (sumTo m.length fun i => c i * ent m i q) % p
theorem Sp.congr {p : Int} {n : Nat} {m : List (List Int)} {v u : Nat → Int} (h : Sp p n m v) (e : ∀ q, q < n → v q % p = u q % p) : Sp p n m u := by
 obtain ⟨c, hc⟩ := h
 exact ⟨c, fun q hq => (e q hq).symm.trans (hc q hq)⟩
theorem Sp.zero (p : Int) (n : Nat) (m : List (List Int)) : Sp p n m fun _ => 0 := ⟨fun _ => 0, fun q _ => by rw [sumTo_zero fun i _ => Int.zero_mul _]⟩
theorem Sp.add {p : Int} {n : Nat} {m : List (List Int)} {v u : Nat → Int} (h : Sp p n m v) (h' : Sp p n m u) : Sp p n m fun q => v q + u q := by
 obtain ⟨c, hc⟩ := h
 obtain ⟨d, hd⟩ := h'
 refine ⟨fun i => c i + d i, fun q hq => ?_⟩
 rw [sumTo_congr (g := fun i => c i * ent m i q + d i * ent m i q) fun i _ => Int.add_mul _ _ _, sumTo_add]
 exact cg_add (hc q hq) (hd q hq)
theorem Sp.mul {p : Int} {n : Nat} {m : List (List Int)} {v : Nat → Int} (h : Sp p n m v) (k : Int) : Sp p n m fun q => k * v q := by
 obtain ⟨c, hc⟩ := h
 refine ⟨fun i => k * c i, fun q hq => ?_⟩
 rw [sumTo_congr (g := fun i => k * (c i * ent m i q)) fun i _ => Int.mul_assoc _ _ _, sumTo_mul]
 exact cg_mul rfl (hc q hq)
theorem Sp.row {p : Int} {n : Nat} {m : List (List Int)} {i : Nat} (hi : i < m.length) : Sp p n m fun q => ent m i q := by
 refine ⟨fun j => if j = i then 1 else 0, fun q _ => ?_⟩
 rw [sumTo_one (f := fun j => (if j = i then 1 else 0) * ent m j q) i hi (fun j _ hj => by simp only [if_neg hj, Int.zero_mul])]
 simp
theorem Sp.mem {p : Int} {n : Nat} {m : List (List Int)} {x : List Int} (hx : x ∈ m) : Sp p n m fun q => x.getD q 0 := by
 obtain ⟨i, hi, rfl⟩ := List.getElem_of_mem hx
 refine (Sp.row hi).congr fun q _ => ?_
 unfold ent; rw [getD_of_lt [] hi]
theorem Sp.sum {p : Int} {n : Nat} {m : List (List Int)} (k : Nat) {f : Nat → Nat → Int} (h : ∀ i, i < k → Sp p n m (f i)) : Sp p n m fun q => sumTo k fun i => f i q := by
 induction k with
 | zero => exact Sp.zero p n m
 | succ k ih => exact (ih fun i hi => h i (by omega)).add (h k (by omega))
theorem Sp.nil {p : Int} {n : Nat} {v : Nat → Int} (h : Sp p n [] v) : ∀ q, q < n → v q % p = 0 := fun q hq => by
 obtain ⟨c, hc⟩ := h
 rw [hc q hq]; simp [sumTo]
/-- All rows of the first are made of those of the second. -/
def InSp (p : Int) (n : Nat) (m m' : List (List Int)) : Prop := ∀ i, i < m.length → Sp p n m' fun q => ent m i q
theorem InSp.sp {p : Int} {n : Nat} {m m' : List (List Int)} (h : InSp p n m m') {v : Nat → Int} (hv : Sp p n m v) : Sp p n m' v := by
 obtain ⟨c, hc⟩ := hv
 exact (Sp.sum m.length fun i hi => (h i hi).mul (c i)).congr fun q hq => (hc q hq).symm
theorem InSp.refl (p : Int) (n : Nat) (m : List (List Int)) : InSp p n m m := fun _ hi => Sp.row hi
theorem InSp.trans {p : Int} {n : Nat} {m m' m2 : List (List Int)} (h : InSp p n m m') (h' : InSp p n m' m2) : InSp p n m m2 := fun i hi => h'.sp (h i hi)
theorem InSp.of_mem {p : Int} {n : Nat} {m m' : List (List Int)} (h : ∀ x ∈ m, Sp p n m' fun q => x.getD q 0) : InSp p n m m' := fun i hi =>
 (h _ (List.getElem_mem hi)).congr fun q _ => by unfold ent; rw [getD_of_lt [] hi]
theorem InSp.of_sub {p : Int} {n : Nat} {m m' : List (List Int)} (h : ∀ x ∈ m, x ∈ m') : InSp p n m m' := InSp.of_mem fun x hx => Sp.mem (h x hx)
theorem InSp.append {p : Int} {n : Nat} {m1 m2 m' : List (List Int)} (h1 : InSp p n m1 m') (h2 : InSp p n m2 m') : InSp p n (m1 ++ m2) m' := InSp.of_mem fun x hx => by
 rcases List.mem_append.1 hx with h | h
 · exact h1.sp (Sp.mem h)
 · exact h2.sp (Sp.mem h)
/-- Two numbers that have the same remainder and are remainders. -/
theorem cg_eq {p a b : Int} (ha : 0 ≤ a ∧ a < p) (hb : 0 ≤ b ∧ b < p) (h : a % p = b % p) : a = b := by
 rwa [Int.emod_eq_of_lt ha.1 ha.2, Int.emod_eq_of_lt hb.1 hb.2] at h
theorem scaledAt_in {p : Int} (hP : isP p = true) {n : Nat} {m : List (List Int)} (hT : Tab p n m) {k d : Nat} (hd : d < m.length) (hv : pivOf m k d < m.length) :
    InSp p n (scaledAt p m k d) m ∧ InSp p n m (scaledAt p m k d) := by
 have hp : 2 ≤ p := by have := isP_ge hP; omega
 have hlen := scaledAt_len p m k d
 have hE := fun r q hq => ent_scaled (p := p) (k := k) rfl hd hv hT r q hq
 obtain ⟨hb1, hb2⟩ := pivOf_bound m k d (by omega)
 have hx : ent m (pivOf m k d) k ≠ 0 := piv_at m k _ _ (by unfold pivOf at hv; omega)
 obtain ⟨x1, x2⟩ := hT.ent (by omega) (pivOf m k d) k
 obtain ⟨i1, i2, i3⟩ := inv_spec hP (show 0 < ent m (pivOf m k d) k by omega) x2
 have hinv : ent m (pivOf m k d) k * invF p (ent m (pivOf m k d) k) % p = 1 := (i3 _ (by omega) i2).2 rfl
 obtain ⟨v, hv'⟩ : ∃ v, v = pivOf m k d := ⟨_, rfl⟩
 rw [← hv'] at hE hx x1 x2 hinv hv hb1 hb2
 obtain ⟨y, hy⟩ : ∃ y, y = invF p (ent m v k) := ⟨_, rfl⟩
 rw [← hy] at hE hinv
 constructor
 · intro r hr
   rw [hlen] at hr
   by_cases h1 : r = d
   · refine ((Sp.row hv).mul y).congr fun q hq => ?_
     rw [hE r q hq, if_pos h1, cg_self, Int.mul_comm]
   · by_cases h2 : r = v
     · refine (Sp.row hd).congr fun q hq => ?_
       rw [hE r q hq, if_neg h1, if_pos h2]
     · refine (Sp.row hr).congr fun q hq => ?_
       rw [hE r q hq, if_neg h1, if_neg h2]
 · intro r hr
   by_cases h2 : r = v
   · refine ((Sp.row (show d < (scaledAt p m k d).length by omega)).mul (ent m v k)).congr fun q hq => ?_
     rw [hE d q hq, if_pos rfl, h2]
     have e1 : ent m v k * (ent m v q * y % p) % p = ent m v k * (ent m v q * y) % p := cg_mul rfl (cg_self _ _)
     have e2 : ent m v k * (ent m v q * y) = ent m v q * (ent m v k * y) := by rw [Int.mul_comm (ent m v q) y, ← Int.mul_assoc, Int.mul_comm]
     rw [e1, e2]
     have e3 : ent m v q * (ent m v k * y) % p = ent m v q * 1 % p := cg_mul rfl (by rw [hinv, Int.emod_eq_of_lt (by omega) (by omega)])
     rw [e3, Int.mul_one]
   · by_cases h1 : r = d
     · refine (Sp.row (show v < (scaledAt p m k d).length by omega)).congr fun q hq => ?_
       rw [hE v q hq, if_neg (fun e => h2 (h1.trans e.symm)), if_pos rfl, h1]
     · refine (Sp.row (show r < (scaledAt p m k d).length by omega)).congr fun q hq => ?_
       rw [hE r q hq, if_neg h1, if_neg h2]
theorem clearTo_in {p : Int} {n : Nat} {m : List (List Int)} (hT : Tab p n m) {k d : Nat} (hd : d < m.length) :
    InSp p n (clearTo p m d k m.length) m ∧ InSp p n m (clearTo p m d k m.length) := by
 have hlen := clearTo_len p m d k m.length
 have hE := fun r q hr hq => ent_cleared (p := p) hT d k r q hr hq
 constructor
 · intro r hr
   rw [hlen] at hr
   by_cases h1 : r = d
   · refine (Sp.row hd).congr fun q hq => ?_
     rw [hE r q hr hq, if_pos h1]
   · refine ((Sp.row hr).add ((Sp.row hd).mul (-(ent m r k)))).congr fun q hq => ?_
     rw [hE r q hr hq, if_neg h1, cg_self]
 · intro r hr
   by_cases h1 : r = d
   · refine (Sp.row (show d < (clearTo p m d k m.length).length by omega)).congr fun q hq => ?_
     rw [hE d q hd hq, if_pos rfl, h1]
   · refine ((Sp.row (show r < (clearTo p m d k m.length).length by omega)).add ((Sp.row (show d < (clearTo p m d k m.length).length by omega)).mul (ent m r k))).congr fun q hq => ?_
     rw [hE r q hr hq, if_neg h1, hE d q hd hq, if_pos rfl]
     refine (cg_add (cg_self _ _) rfl).trans ?_
     congr 1
     rw [Int.neg_mul]; omega
theorem stepB_in {p : Int} (hP : isP p = true) {n : Nat} {s : List (List Int) × Nat} {k : Nat} (hT : Tab p n s.1) (hd : s.2 ≤ s.1.length) : InSp p n (stepB p k s).1 s.1 ∧ InSp p n s.1 (stepB p k s).1 := by
 unfold stepB
 split
 · exact ⟨InSp.refl _ _ _, InSp.refl _ _ _⟩
 · rename_i hne
   have hb := pivOf_bound s.1 k s.2 hd
   have hp : 2 ≤ p := by have := isP_ge hP; omega
   obtain ⟨a1, a2⟩ := scaledAt_in (k := k) hP hT (show s.2 < s.1.length by omega) (by omega)
   obtain ⟨b1, b2⟩ := clearTo_in (k := k) (d := s.2) (scaledAt_tab (p := p) (k := k) (by omega) hT (show s.2 < s.1.length by omega) (by omega)) (by rw [scaledAt_len]; omega)
   rw [scaledAt_len] at b1 b2
   exact ⟨b1.trans a1, a2.trans b2⟩
theorem basisTo_in {p : Int} (hP : isP p = true) {n : Nat} (m : List (List Int)) (hT : Tab p n m) (k : Nat) (hk : k ≤ n) : InSp p n (basisTo p m k).1 m ∧ InSp p n m (basisTo p m k).1 := by
 have hp : 2 ≤ p := by have := isP_ge hP; omega
 induction k with
 | zero => exact ⟨InSp.refl _ _ _, InSp.refl _ _ _⟩
 | succ k ih =>
  obtain ⟨h1, h2⟩ := ih (by omega)
  obtain ⟨t1, t2, t3⟩ := basisTo_inv (p := p) (by omega) m hT k
  obtain ⟨g1, g2⟩ := stepB_in (k := k) hP (s := basisTo p m k) t1 (by omega)
  exact ⟨g1.trans h1, h2.trans g2⟩
/-- The reduced basis makes what the rows make. -/
theorem basisL_in {p : Int} (hP : isP p = true) {n : Nat} (m : List (List Int)) (hT : Tab p n m) : InSp p n (basisL p m) m ∧ InSp p n m (basisL p m) := by
 have hp : 2 ≤ p := by have := isP_ge hP; omega
 by_cases h0 : 0 < m.length
 · have hl := row0_len hT h0
   obtain ⟨a1, a2⟩ := basisTo_in hP m hT n (Nat.le_refl _)
   obtain ⟨c, hc⟩ := basisTo_ech hP m hT n (Nat.le_refl _)
   obtain ⟨h1, h2, h3⟩ := basisTo_inv (p := p) (by omega) m hT n
   have e : basisL p m = (basisTo p m n).1.take (basisTo p m n).2 := by unfold basisL; rw [hl]
   constructor
   · refine InSp.trans (InSp.of_sub fun x hx => ?_) a1
     rw [e] at hx
     exact List.mem_of_mem_take hx
   · refine a2.trans fun i hi => ?_
     by_cases hid : i < (basisTo p m n).2
     · refine (Sp.mem (x := (basisTo p m n).1[i]) ?_).congr fun q _ => by unfold ent; rw [getD_of_lt [] hi]
       rw [e]
       exact List.mem_take_iff_getElem.2 ⟨i, by omega, rfl⟩
     · exact (Sp.zero _ _ _).congr fun q hq => by rw [hc.rest i (by omega) hi q hq]
 · obtain rfl : m = [] := List.eq_nil_of_length_eq_zero (by omega)
   rw [basisL_nil]
   exact ⟨InSp.refl _ _ _, InSp.refl _ _ _⟩
/-- What a reduced basis makes is told by its numbers at the places of the firsts. -/
theorem Red.coef {p : Int} {n : Nat} {B : List (List Int)} (hR : Red n B) {v : Nat → Int} (hv : Sp p n B v) : ∀ q, q < n → v q % p = (sumTo B.length fun i => v (ld B i) * ent B i q) % p := by
 obtain ⟨c, hc⟩ := hv
 intro q hq
 rw [hc q hq]
 refine sumTo_mod p fun i hi => cg_mul ?_ rfl
 rw [hc _ (hR.lt i hi), sumTo_one (f := fun j => c j * ent B j (ld B i)) i hi (fun j hj hji => by rw [hR.zero i j hi hj hji, Int.mul_zero]), hR.one i hi, Int.mul_one]
theorem Red.lead_of {p : Int} {n : Nat} {B : List (List Int)} (hR : Red n B) {v : Nat → Int} (hv : Sp p n B v) {q0 : Nat} (hq : q0 < n) (h0 : v q0 % p ≠ 0) (hb : ∀ q, q < q0 → v q % p = 0) : ∃ i, i < B.length ∧ ld B i = q0 := by
 refine Classical.byContradiction fun hno => h0 ?_
 rw [hR.coef hv q0 hq]
 refine (sumTo_mod p (g := fun _ => 0) fun i hi => ?_).trans (by rw [sumTo_zero fun _ _ => rfl]; rfl)
 rcases Nat.lt_trichotomy (ld B i) q0 with h | h | h
 · rw [Int.mul_emod, hb _ h]; simp
 · exact absurd ⟨i, hi, h⟩ hno
 · rw [hR.before i q0 h, Int.mul_zero]
theorem Red.leads_le {p : Int} (hp : 2 ≤ p) {n : Nat} {B C : List (List Int)} (hB : Red n B) (hC : Red n C) (h1 : InSp p n B C) (h2 : InSp p n C B) : ∀ i, i < B.length → i < C.length ∧ ld C i = ld B i := by
 have one : ∀ (B C : List (List Int)), Red n B → Red n C → InSp p n B C → ∀ i, i < B.length → ∃ j, j < C.length ∧ ld C j = ld B i := fun B C hB hC h i hi =>
  hC.lead_of (h i hi) (hB.lt i hi) (by rw [hB.one i hi, Int.emod_eq_of_lt (by omega) (by omega)]; omega) (fun q hq => by rw [hB.before i q hq]; simp)
 intro i
 induction i using Nat.strongRecOn with
 | _ i ih =>
  intro hi
  obtain ⟨j, hj, e⟩ := one B C hB hC h1 i hi
  have hij : i ≤ j := by
   refine Nat.le_of_not_lt fun hlt => ?_
   have := (ih j hlt (by omega)).2
   have := hB.inj (i := j) (j := i) (by omega) hi (by omega)
   omega
  have hic : i < C.length := by omega
  refine ⟨hic, ?_⟩
  rcases Nat.lt_or_ge i j with hlt | hge
  · obtain ⟨k, hk, e2⟩ := one C B hC hB h2 i hic
    have m1 := hC.mono i j hlt hj
    rcases Nat.lt_trichotomy k i with h | h | h
    · have := (ih k h (by omega)).2
      have := hC.inj (i := k) (j := i) (by omega) hic (by omega)
      omega
    · subst h; omega
    · have := hB.mono i k h hk; omega
  · obtain rfl : i = j := by omega
    exact e
/-- There is only one reduced basis. -/
theorem Red.unique {p : Int} (hp : 2 ≤ p) {n : Nat} {B C : List (List Int)} (hB : Red n B) (hC : Red n C) (TB : Tab p n B) (TC : Tab p n C) (h1 : InSp p n B C) (h2 : InSp p n C B) : B = C := by
 have a := hB.leads_le hp hC h1 h2
 have b := hC.leads_le hp hB h2 h1
 have hl : B.length = C.length := by
  rcases Nat.lt_trichotomy B.length C.length with h | h | h
  · have := (b B.length h).1; omega
  · exact h
  · have := (a C.length h).1; omega
 refine list_ext_getD [] hl fun i hi => ?_
 have hic : i < C.length := by omega
 obtain ⟨r1, r2⟩ := TB.row hi
 obtain ⟨s1, s2⟩ := TC.row hic
 refine list_ext_getD 0 (by omega) fun q hq => ?_
 rw [r1] at hq
 refine cg_eq (p := p) (TB.ent (by omega) i q) (TC.ent (by omega) i q) ?_
 show ent B i q % p = ent C i q % p
 rw [hC.coef (h1 i hi) q hq]
 congr 1
 rw [sumTo_one (f := fun j => ent B i (ld C j) * ent C j q) i hic (fun j hj hji => by
  rw [← (b j hj).2, hB.zero j i (by omega) hi (Ne.symm hji), Int.zero_mul]), (a i hi).2, hB.one i hi, Int.one_mul]
/-- Orthogonal to all rows. -/
def Orth (p : Int) (n : Nat) (m : List (List Int)) (v : Nat → Int) : Prop := ∀ i, i < m.length → (sumTo n fun q => ent m i q * v q) % p = 0
theorem Orth.sp {p : Int} {n : Nat} {m : List (List Int)} {v : Nat → Int} (h : Orth p n m v) {u : Nat → Int} (hu : Sp p n m u) : (sumTo n fun q => u q * v q) % p = 0 := by
 obtain ⟨c, hc⟩ := hu
 have e1 : (sumTo n fun q => u q * v q) % p = (sumTo n fun q => sumTo m.length fun i => c i * (ent m i q * v q)) % p := by
  refine sumTo_mod p fun q hq => ?_
  rw [sumTo_congr (f := fun i => c i * (ent m i q * v q)) (g := fun i => v q * (c i * ent m i q)) (fun i _ => by rw [Int.mul_comm (v q), Int.mul_assoc]), sumTo_mul, Int.mul_comm (v q)]
  exact cg_mul (hc q hq) rfl
 rw [e1, sumTo_comm]
 refine (sumTo_mod p (g := fun _ => 0) fun i hi => ?_).trans (by rw [sumTo_zero fun _ _ => rfl]; rfl)
 rw [sumTo_mul, Int.mul_emod, h i hi]; simp
theorem Orth.of_in {p : Int} {n : Nat} {m m' : List (List Int)} {v : Nat → Int} (h : Orth p n m v) (hi : InSp p n m' m) : Orth p n m' v := fun i hl => h.sp (hi i hl)
theorem freeRow_at {p : Int} {B : List (List Int)} {n f k : Nat} (hk : k < n) : (freeRow p B n f).getD k 0 = if k = f then 1 else match ldIdx B k with | some i => (-(ent B i f)) % p | none => 0 := by
 unfold freeRow freePart
 rw [tab_getD hk]; simp <;> rfl
theorem freeRow_ld {p : Int} {B : List (List Int)} {n f i : Nat} (hR : Red n B) (hi : i < B.length) (hf : isLd B f = false) : (freeRow p B n f).getD (ld B i) 0 = (-(ent B i f)) % p := by
 rw [freeRow_at (hR.lt i hi), if_neg (fun e => by rw [isLd_iff.2 ⟨i, hi, e⟩] at hf; cases hf), ldIdx_some hR hi]
theorem freeRow_own {p : Int} {B : List (List Int)} {n f : Nat} (hf : f < n) : (freeRow p B n f).getD f 0 = 1 := by rw [freeRow_at hf, if_pos rfl]
theorem freeRow_no {p : Int} {B : List (List Int)} {n f k : Nat} (hk : k < n) (hkf : k ≠ f) (hl : isLd B k = false) : (freeRow p B n f).getD k 0 = 0 := by rw [freeRow_at hk, if_neg hkf, ldIdx_none hl]
theorem freeRow_orth {p : Int} {B : List (List Int)} {n f : Nat} (hR : Red n B) (hf : f < n) (hl : isLd B f = false) : Orth p n B fun q => (freeRow p B n f).getD q 0 := fun i hi => by
 have hne : ld B i ≠ f := fun e => by rw [isLd_iff.2 ⟨i, hi, e⟩] at hl; cases hl
 rw [sumTo_two (f := fun q => ent B i q * (freeRow p B n f).getD q 0) (ld B i) f (hR.lt i hi) hf hne (fun q hq h1 h2 => by
  cases hq' : isLd B q with
  | false => simp only [freeRow_no hq h2 hq', Int.mul_zero]
  | true =>
   obtain ⟨j, hj, rfl⟩ := isLd_iff.1 hq'
   simp only [hR.zero j i hj hi (fun e => h1 (by rw [e])), Int.zero_mul]), freeRow_ld hR hi hl, freeRow_own hf, hR.one i hi, Int.one_mul, Int.mul_one]
 refine (cg_add (cg_self _ _) rfl).trans ?_
 rw [Int.add_comm, ← Int.sub_eq_add_neg, Int.sub_self]; rfl
theorem freeTo_mem {p : Int} {B : List (List Int)} {n k : Nat} {x : List Int} : x ∈ freeTo p B n k ↔ ∃ f, f < k ∧ isLd B f = false ∧ x = freeRow p B n f := by
 unfold freeTo
 rw [List.mem_map]
 constructor
 · rintro ⟨f, hf, rfl⟩
   rw [List.mem_filter] at hf
   exact ⟨f, by simpa using hf.1, by simpa using hf.2, rfl⟩
 · rintro ⟨f, h1, h2, rfl⟩
   exact ⟨f, List.mem_filter.2 ⟨by simpa using h1, by simp [h2]⟩, rfl⟩
/-- What the free rows make is what is orthogonal to the reduced basis. -/
theorem freeTo_sp {p : Int} {B : List (List Int)} {n : Nat} (hR : Red n B) {v : Nat → Int} : Sp p n (freeTo p B n n) v ↔ Orth p n B v := by
 constructor
 · rintro ⟨c, hc⟩ i hi
   have h2 : Orth p n (freeTo p B n n) fun q => ent B i q := fun r hr => by
    have hx := List.getElem_mem hr
    obtain ⟨f, hf, hl, e⟩ := freeTo_mem.1 hx
    have := freeRow_orth (p := p) hR hf hl i hi
    rw [sumTo_congr (g := fun q => ent B i q * (freeRow p B n f).getD q 0) fun q _ => by unfold ent; rw [getD_of_lt [] hr, e, Int.mul_comm]]
    exact this
   have := h2.sp ⟨c, hc⟩
   rw [sumTo_congr (g := fun q => v q * ent B i q) fun q _ => Int.mul_comm _ _]
   exact this
 · intro h
   have hmem : Sp p n (freeTo p B n n) fun q => sumTo n fun f => if isLd B f then 0 else v f * (freeRow p B n f).getD q 0 := Sp.sum n fun f hf => by
    cases hl : isLd B f with
    | true => simp only [if_true]; exact Sp.zero _ _ _
    | false => simp only [Bool.false_eq_true, if_false]; exact (Sp.mem (freeTo_mem.2 ⟨f, hf, hl, rfl⟩)).mul (v f)
   refine hmem.congr fun q hq => ?_
   cases hl : isLd B q with
   | false =>
    rw [sumTo_one (f := fun f => if isLd B f then 0 else v f * (freeRow p B n f).getD q 0) q hq (fun f hf hfq => by
     cases hlf : isLd B f with
     | true => simp
     | false => simp only [Bool.false_eq_true, if_false, freeRow_no hq (Ne.symm hfq) hl, Int.mul_zero])]
    simp only [hl, Bool.false_eq_true, if_false, freeRow_own hq, Int.mul_one]
   | true =>
    obtain ⟨i, hi, rfl⟩ := isLd_iff.1 hl
    have ho := h i hi
    have e1 : (sumTo n fun f => ent B i f * v f) % p = (sumTo n fun f => (if f = ld B i then v f else 0) + (-1) * (if isLd B f then 0 else v f * (freeRow p B n f).getD (ld B i) 0)) % p := by
     refine sumTo_mod p fun f hf => ?_
     cases hlf : isLd B f with
     | true =>
      obtain ⟨j, hj, rfl⟩ := isLd_iff.1 hlf
      simp only [if_true, Int.mul_zero, Int.add_zero]
      by_cases hji : j = i
      · subst hji; rw [if_pos rfl, hR.one j hj, Int.one_mul]
      · rw [if_neg (fun e => hji (hR.inj hj hi e)), hR.zero j i hj hi (Ne.symm hji), Int.zero_mul]
     | false =>
      have hne : f ≠ ld B i := fun e => by rw [e, hl] at hlf; cases hlf
      simp only [Bool.false_eq_true, if_false, if_neg hne, Int.zero_add, freeRow_ld hR hi hlf]
      have : -1 * (v f * (-(ent B i f) % p)) % p = -1 * (v f * (-(ent B i f))) % p := cg_mul rfl (cg_mul rfl (cg_self _ _))
      rw [this]; congr 1
      rw [Int.mul_neg, Int.neg_mul, Int.one_mul, Int.neg_neg, Int.mul_comm]
    rw [e1, sumTo_add, sumTo_mul, sumTo_one (f := fun f => if f = ld B i then v f else 0) (ld B i) hq (fun f _ hf => if_neg hf), if_pos rfl] at ho
    obtain ⟨S, hS⟩ : ∃ S, S = sumTo n fun f => if isLd B f then 0 else v f * (freeRow p B n f).getD (ld B i) 0 := ⟨_, rfl⟩
    rw [← hS] at ho ⊢
    have := cg_add (ho.trans (Int.zero_emod p).symm) (show S % p = S % p from rfl)
    rw [Int.zero_add] at this
    rw [← this]; congr 1; omega
theorem kernL_sp {p : Int} (hP : isP p = true) {n : Nat} {m : List (List Int)} (hT : Tab p n m) {v : Nat → Int} : Sp p n (kernL p m n) v ↔ Orth p n m v := by
 have hp : 2 ≤ p := by have := isP_ge hP; omega
 obtain ⟨a1, a2⟩ := basisL_in hP m hT
 obtain ⟨b1, b2⟩ := basisL_in hP _ (freeTo_tab (p := p) hp (basisL p m) n n)
 constructor
 · exact fun h => ((freeTo_sp (basisL_red hP m hT)).1 (b1.sp h)).of_in a2
 · exact fun h => b2.sp ((freeTo_sp (basisL_red hP m hT)).2 (h.of_in a1))
theorem transL_row {m : List (List Int)} {n q : Nat} {p : Int} (hT : Tab p n m) (h0 : 0 < m.length) (hq : q < n) : (transL m).getD q [] = tab m.length fun i => ent m i q := by
 unfold transL
 rw [row0_len hT h0, tab_getD hq]
theorem apply_at {p : Int} {n : Nat} {a : List (List Int)} (hT : Tab p n a) (h0 : 0 < a.length) (z : List Int) {q : Nat} (hq : q < n) : (applyL p (transL a) z).getD q 0 = (sumTo a.length fun i => ent a i q * z.getD i 0) % p := by
 unfold applyL
 rw [tab_getD (by rw [transL_len hT h0]; exact hq), transL_row hT h0 hq]
 unfold dotL
 rw [tab_len]
 congr 1
 exact sumTo_congr fun i hi => by rw [tab_getD hi]
theorem take_getD {α : Type} (d : α) (z : List α) {k i : Nat} (h : i < k) : (z.take k).getD i d = z.getD i d := by
 by_cases hz : i < z.length
 · rw [getD_of_lt d (by rw [List.length_take]; omega), getD_of_lt d hz, List.getElem_take]
 · rw [getD_of_ge d (by rw [List.length_take]; omega), getD_of_ge d (by omega)]
end Go.Proofs.YtmkjdpnoloofjaaGreat
namespace Go.Proofs.YtmkjdpnoloofjaaGreat
open Go.RowKit
theorem Blk.newAt {w : World} {t : TypeId} {cs : Array Value} {g : Nat} (hg : g = w.heap.size) : Blk (w.alloc (.cells cs t)) g t cs := hg ▸ Blk.new w t cs
theorem codeR_zero2 {P : Int} {sq : List Int} {ms : List (List Int)} (h : codeR P sq ms = 0) : codeM P sq ms = 0 := by
 unfold codeR at h
 by_cases h1 : codeM P sq ms = 0
 · exact h1
 · rw [if_neg h1] at h; exact absurd h h1
theorem codeM_spec2 {P : Int} {sq : List Int} {ms : List (List Int)} (h : codeM P sq ms = 0) : isP P = true ∧ 2 < P ∧ P ≤ 13 ∧ 1 ≤ sq.length ∧ sq.length ≤ 6 ∧ NumsL P sq ∧ ∀ ys ∈ ms, ys.length = pw sq.length ∧ NumsL P ys := by
 obtain ⟨h1, h2⟩ := codeM_sp h
 obtain ⟨hp, hd1, hd2, hnum⟩ := isSp_dim h1
 have := isP_ge hp
 refine ⟨hp, by omega, by omega, hd1, hd2, nums_numsL hnum, fun ys hy => ?_⟩
 have hm := h2 ys hy
 unfold isMu at hm
 simp only [Bool.and_eq_true, beq_iff_eq] at hm
 exact ⟨by have := hm.1; omega, nums_numsL hm.2⟩
/-- The code of a regular space and bivectors. -/
def codeB (P : Int) (sq : List Int) (ms : List (List Int)) : Int := if codeR P sq ms = 0 then (if ms.all (fun xs => onlyL xs 2) then 0 else 5) else codeR P sq ms
theorem codeB_zero {P : Int} {sq : List Int} {ms : List (List Int)} (h : codeB P sq ms = 0) : codeR P sq ms = 0 := by
 unfold codeB at h
 by_cases h1 : codeR P sq ms = 0
 · exact h1
 · rw [if_neg h1] at h; exact absurd h h1
theorem codeB_bad {P : Int} {sq : List Int} {ms : List (List Int)} (h : codeR P sq ms = 0) {xs : List Int} (hm : xs ∈ ms) (hx : onlyL xs 2 = false) : codeB P sq ms = 5 := by
 unfold codeB
 rw [if_pos h, if_neg]
 intro hall
 have := List.all_eq_true.1 hall xs hm
 rw [hx] at this
 cases this
theorem codeB_good {P : Int} {sq : List Int} {ms : List (List Int)} (h : codeR P sq ms = 0) (hall : ms.all (fun xs => onlyL xs 2) = true) : codeB P sq ms = 0 := by
 unfold codeB
 rw [if_pos h, if_pos hall]
theorem codeB_ne {P : Int} {sq : List Int} {ms : List (List Int)} (h : ¬ codeR P sq ms = 0) : codeB P sq ms = codeR P sq ms := by
 unfold codeB
 rw [if_neg h]
theorem all_take {α : Type} {f : α → Bool} {xs : List α} {k : Nat} (hk : k < xs.length) (h : (xs.take k).all f = true) (hf : f xs[k] = true) : (xs.take (k + 1)).all f = true := by
 rw [List.take_succ_eq_append_getElem hk, List.all_append, h]
 simp [hf]
/-- Half a list. -/
def halfL (P : Int) (xs : List Int) : List Int := scaleL P xs (invF P 2)
theorem brkL_len (P : Int) (sq : List Int) (n : Nat) (xs ys : List Int) : (brkL P sq n xs ys).length = pw n := by unfold brkL; rw [plusL_len, timesL_len]
theorem brkL_nums {P : Int} (hp : 2 ≤ P) (sq : List Int) (n : Nat) (xs ys : List Int) : NumsL P (brkL P sq n xs ys) := plusL_nums (by omega) _ _ _
set_option maxHeartbeats 1600000 in
set_option maxRecDepth 8000 in
theorem halved_any (P : Int) (A : Option Addr) (n c : Nat) (X : Option Addr) (cx : Nat) (xs : List Int) (w : World) (hp3 : 2 < P) (hp2 : P ≤ 13) (hn : n ≤ 6) (hx : Rd w X (pw n) (ints xs)) (hxs : NumsL P xs) :
    Calls Tryz.prog 231 #[.agg #[.int .i64 P, .slice A n c], .slice X (pw n) cx] w fun e w' => ∃ A' c', e = .returned (.slice A' (pw n) c') ∧ MkI w w' A' (pw n) c' (halfL P xs) := by
 have hB0 : Below w.heap.size w (w.alloc (.cells #[.int .i64 P, .slice A n c] 26)) := zG.alloc (Nat.le_refl _) _
 have k0 : Blk (w.alloc (.cells #[.int .i64 P, .slice A n c] 26)) w.heap.size 26 #[.int .i64 P, .slice A n c] := Blk.new _ _ _
 have HPW : pw n ≤ 65536 := Nat.le_trans (pw_le (show n ≤ 10 by omega)) (by decide)
 have HPW64 : pw n ≤ 64 := pw_le hn
 have hp : 2 ≤ P := by omega
 go_enter Tryz.func231, Tryz.ntmps231
 go_wp2
 refine wp_obs 8 [[],[0],[],[],[3],[3,4],[0,1,2,3,4,5],[0,1,2,3,4,5,6]] [VIs (.agg #[.int .i64 P, .slice A n c]), VIs (.int .i64 P), VIs (.slice X (pw n) cx), VIs (.agg #[.int .i64 P, .slice A n c]), VIs (.int .i64 P), VIs (.int .i64 (invF P 2)), VSl w (pw n) (scaleL P xs (invF P 2)), VSl w (pw n) (scaleL P xs (invF P 2))] (fun w' => Blk w' w.heap.size 26 #[.int .i64 P, .slice A n c] ∧ Below w.heap.size w w') (by kernel_rfl) (by kernel_rfl) (fun _ _ h hb => ⟨h.1.below hb h.1.lt, h.2.trans (hb.mono h.2.size)⟩) (⟨k0.drew, hB0.drew⟩) (fun x => ?_)
 refine zS (fun w' hS hV K hK => ?_) ?_
 · obtain ⟨q0, q1⟩ := hS.1.two; go_simp; exact zO hK
 refine zS (fun w' hS hV K hK => ?_) ?_
 · have e0 := zQ hV 0; obtain ⟨q0, q1⟩ := hS.1.two; go_simp; refine (field_any _ _ _ _ _).mono ?_; rintro e w1 ⟨rfl, hb⟩; exact hK.out _ _ _ rfl rfl rfl hb
 refine zS (fun w' hS hV K hK => ?_) ?_
 · obtain ⟨q0, q1⟩ := hS.1.two; go_simp; exact zO hK
 refine zS (fun w' hS hV K hK => ?_) ?_
 · obtain ⟨q0, q1⟩ := hS.1.two; go_simp; exact zO hK
 refine zS (fun w' hS hV K hK => ?_) ?_
 · have e3 := zQ hV 3; obtain ⟨q0, q1⟩ := hS.1.two; go_simp; refine (field_any _ _ _ _ _).mono ?_; rintro e w1 ⟨rfl, hb⟩; exact hK.out _ _ _ rfl rfl rfl hb
 refine zS (fun w' hS hV K hK => ?_) ?_
 · have e4 := zQ hV 4; obtain ⟨q0, q1⟩ := hS.1.two; go_simp; refine (inv_any P 2 _ hp hp2 (show 0 ≤ (2 : Int) ∧ (2 : Int) < P from ⟨by omega, by omega⟩).1 (show 0 ≤ (2 : Int) ∧ (2 : Int) < P from ⟨by omega, by omega⟩).2).mono ?_; rintro e w1 ⟨rfl, rfl⟩; exact zO hK
 refine zS (fun w' hS hV K hK => ?_) ?_
 · have e1 := zQ hV 1; have e2 := zQ hV 2; have e5 := zQ hV 5; obtain ⟨q0, q1⟩ := hS.1.two; go_simp; refine (scaled_any P _ (pw n) _ (invF P 2) xs _ hp hp2 HPW (hx.below hS.2) hxs (by have := (invF_small hp 2); omega) (by have := (invF_small hp 2); omega)).mono ?_; rintro e w1 ⟨A2, c2, rfl, hM⟩; exact hK.out _ _ _ rfl rfl ⟨_, _, rfl, hM.after hS.2⟩ hM.b
 refine zS (fun w' hS hV K hK => ?_) ?_
 · obtain ⟨A6, c6, e6, h6⟩ := hV 6 (by decide); obtain ⟨q0, q1⟩ := hS.1.two; go_simp; exact hK.out _ _ _ rfl rfl ⟨_, _, rfl, h6⟩ zG
 refine fun w' hS hV => ?_
 have e0 := zT hV 0
 have e1 := zT hV 1
 have e2 := zT hV 2
 have e3 := zT hV 3
 have e4 := zT hV 4
 have e5 := zT hV 5
 obtain ⟨A6, c6, e6, h6⟩ := hV 6 (by decide)
 obtain ⟨A7, c7, e7, h7⟩ := hV 7 (by decide)
 simp only [e0, e1, e2, e3, e4, e5, e6, e7]
 clear e0 e1 e2 e3 e4 e5 e6 e7
 refine wpAny_done (by kernel_rfl) ?_ _
 go_wp2
 go_ret
 exact ⟨_, _, rfl, h7⟩
set_option maxHeartbeats 800000 in
set_option maxRecDepth 8000 in
theorem checkRegular_any (P : Int) (A B : Option Addr) (n c m d : Nat) (sq : List Int) (ms : List (List Int)) (w : World) (hn : n ≤ 1048576) (hm : m ≤ 1048576) (ha : Rd w A n (ints sq)) (hb : RdII w B m ms) (hms : ∀ ys ∈ ms, ys.length ≤ 1048576) :
    Calls Tryz.prog 228 #[.agg #[.int .i64 P, .slice A n c], .slice B m d] w fun e w' => e = .returned (.int .i64 (codeR P sq ms)) ∧ Below w.heap.size w w' := by
 have hB0 : Below w.heap.size w (w.alloc (.cells #[.int .i64 P, .slice A n c] 26)) := zG.alloc (Nat.le_refl _) _
 have k0 : Blk (w.alloc (.cells #[.int .i64 P, .slice A n c] 26)) w.heap.size 26 #[.int .i64 P, .slice A n c] := Blk.new _ _ _
 have hcm := checkMultis_any P A B n c m d sq ms _ hn hm (ha.below hB0) (hb.below hB0) hms
 by_cases e1 : codeM P sq ms = 0
 · rw [e1] at hcm
   have E1 := Lib.hid e1
   clear e1
   cases hr : regB sq
   all_goals
    have HR := Lib.hid hr
    clear hr
    go_enter Tryz.func228, Tryz.ntmps228
    go_wp2_with fail
    refine hcm.mono ?_
    rintro e w1 ⟨rfl, hb1⟩
    have hB1 := hB0.trans (hb1.mono (by simp))
    have k1 := k0.below hb1 k0.lt
    obtain ⟨q0, q1⟩ := k1.two
    clear k0
    go_wp2_with fail
    refine (regular_any P A n c sq _ hn (ha.below hB1)).mono ?_
    rintro e w2 ⟨rfl, hb2⟩
    rw [HR.out]
    go_wp2
    go_ret
    exact ⟨ret_int (by unfold codeR; rw [if_pos E1.out, HR.out]; rfl), hB1.trans (hb2.mono hB1.size)⟩
 · obtain ⟨r, hr⟩ : ∃ r, r = codeM P sq ms := ⟨_, rfl⟩
   have HR := Lib.hid hr
   have E1 := Lib.hid e1
   have b0 : (r != 0) = true := code_ne (by rw [hr]; exact e1)
   rw [← hr] at hcm
   clear hr e1
   go_enter Tryz.func228, Tryz.ntmps228
   go_wp2_with fail
   refine hcm.mono ?_
   rintro e w1 ⟨rfl, hb1⟩
   go_wp2
   go_ret
   exact ⟨ret_int (by unfold codeR; rw [if_neg E1.out, HR.out]), hB0.trans (hb1.mono (by simp))⟩
theorem isBivector_any (X : Option Addr) (m cx : Nat) (xs : List Int) (w : World) (hm : m ≤ 64) (hx : Rd w X m (ints xs)) :
    Calls Tryz.prog 229 #[.slice X m cx] w fun e w' => e = .returned (.bool (onlyL xs 2)) ∧ Below w.heap.size w w' := by
 go_enter Tryz.func229, Tryz.ntmps229
 go_wp2_with fail
 refine (onlyGrade_any X m cx xs 2 w hm hx).mono ?_
 rintro e w1 ⟨rfl, hb⟩
 go_wp2
 go_ret
 exact ⟨rfl, hb⟩
set_option maxHeartbeats 1600000 in
set_option maxRecDepth 8000 in
theorem checkBivectors_any (P : Int) (A B : Option Addr) (n c m d : Nat) (sq : List Int) (ms : List (List Int)) (w : World) (hn : n ≤ 1048576) (hm : m ≤ 1048576) (ha : Rd w A n (ints sq)) (hb : RdII w B m ms) (hms : ∀ ys ∈ ms, ys.length ≤ 1048576) :
    Calls Tryz.prog 126 #[.agg #[.int .i64 P, .slice A n c], .slice B m d] w fun e w' => e = .returned (.int .i64 (codeB P sq ms)) ∧ Below w.heap.size w w' := by
 have hB0 : Below w.heap.size w (w.alloc (.cells #[.int .i64 P, .slice A n c] 26)) := zG.alloc (Nat.le_refl _) _
 have k0 : Blk (w.alloc (.cells #[.int .i64 P, .slice A n c] 26)) w.heap.size 26 #[.int .i64 P, .slice A n c] := Blk.new _ _ _
 have hcm := checkRegular_any P A B n c m d sq ms _ hn hm (ha.below hB0) (hb.below hB0) hms
 by_cases e1 : codeR P sq ms = 0
 · obtain ⟨_, _, _, _, hd2, _, hms2⟩ := codeM_spec2 (codeR_zero2 e1)
   have hn6 : sq.length ≤ 6 := hd2
   have hml := hb.len
   rw [e1] at hcm
   have E1 := Lib.hid e1
   have HMS2 := Lib.hid hms2
   clear e1 hd2 hms2
   go_enter Tryz.func126, Tryz.ntmps126
   go_wp2_with fail
   refine hcm.mono ?_
   rintro e w1 ⟨rfl, hb1⟩
   have hB1 := hB0.trans (hb1.mono (by simp))
   clear k0 hB0 hb1
   have HML := Lib.hid hml
   clear hml
   go_wp2
   go_loopw [7, 16] (fun _ i wr => ∃ k : Nat, k ≤ m ∧ i = .int .i64 k ∧ (ms.take k).all (fun xs => onlyL xs 2) = true ∧ Below w.heap.size w wr) (fun _ i _ => m - (intOf i).toNat)
   case atStart => exact ⟨0, by omega, rfl, by simp, hB1⟩
   case round =>
    obtain ⟨k, hk, rfl, ht, hBr⟩ := hrel
    have HT := Lib.hid ht
    clear hB1 ht
    by_cases hlt : k < m
    · obtain ⟨g, o, rfl, hxk, A', c', hcx, hr0, hcc⟩ := (hb.below hBr).at_ hlt
      obtain ⟨hl1, hn1⟩ := HMS2.out ms[k] (List.getElem_mem hxk)
      have HL64 : ms[k].length ≤ 64 := by rw [hl1]; exact pw_le hn6
      clear hl1 hn1
      have i1 : (0 : Int) ≤ (k : Int) := by omega
      have i2 : (k : Int) < (m : Int) := by omega
      cases ho : onlyL ms[k] 2
      all_goals
       have HO := Lib.hid ho
       clear ho
       go_wp2_with fail
       refine (isBivector_any A' ms[k].length c' ms[k] _ HL64 hr0).mono ?_
       rintro e w2 ⟨rfl, hb2⟩
       rw [HO.out]
       have hB2 := hBr.trans (hb2.mono hBr.size)
       go_wp2
      · go_ret
        exact ⟨ret_int (codeB_bad E1.out (List.getElem_mem hxk) HO.out).symm, hB2⟩
      · go_roundw
        case rel => exact ⟨k + 1, by omega, by go_num, all_take hxk HT.out HO.out, hB2⟩
        case measure => simp [intOf]; omega
    · go_wp2
      go_ret
      refine ⟨ret_int (codeB_good E1.out ?_).symm, hBr⟩
      have := HT.out
      rwa [List.take_of_length_le (by rw [HML.out]; omega)] at this
 · obtain ⟨r, hr⟩ : ∃ r, r = codeR P sq ms := ⟨_, rfl⟩
   have HR := Lib.hid hr
   have E1 := Lib.hid e1
   have b0 : (r != 0) = true := code_ne (by rw [hr]; exact e1)
   rw [← hr] at hcm
   clear hr e1
   go_enter Tryz.func126, Tryz.ntmps126
   go_wp2_with fail
   refine hcm.mono ?_
   rintro e w1 ⟨rfl, hb1⟩
   go_wp2
   go_ret
   exact ⟨ret_int (by rw [codeB_ne E1.out, HR.out]), hB0.trans (hb1.mono (by simp))⟩
theorem partL_scale {P : Int} {n : Nat} {xs : List Int} (k : Int) (hx : xs.length = pw n) : partL n (scaleL P xs k) = scaleL P (partL n xs) k := by
 apply list_ext_getD 0 (by rw [scaleL_len, partL_len, partL_len])
 intro i hi
 rw [partL_len] at hi
 have hi2 : 2 ^ i < xs.length := by rw [hx]; unfold pw; exact Nat.pow_lt_pow_right (by omega) hi
 rw [scaleL_getD k (by rw [partL_len]; exact hi)]
 simp only [partL, List.getD_eq_getElem?_getD, List.getElem?_map, List.getElem?_range hi, Option.map_some, Option.getD_some]
 have := scaleL_getD (p := P) k hi2
 simpa only [List.getD_eq_getElem?_getD] using this
/-- What a bivector does to a vector. -/
def turnL (P : Int) (sq : List Int) (n : Nat) (xs v : List Int) : List Int := scaleL P (partL n (brkL P sq n xs (vecTo n v n))) (invF P 2)
theorem turnL_len (P : Int) (sq : List Int) (n : Nat) (xs v : List Int) : (turnL P sq n xs v).length = n := by unfold turnL; rw [scaleL_len, partL_len]
theorem turnL_nums {P : Int} (hp : 2 ≤ P) (sq : List Int) (n : Nat) (xs v : List Int) : NumsL P (turnL P sq n xs v) := scaleL_nums (by omega) _ _
theorem turnL_eq (P : Int) (sq : List Int) (n : Nat) (xs v : List Int) : partL n (halfL P (brkL P sq n xs (vecTo n v n))) = turnL P sq n xs v := by
 unfold turnL halfL
 exact partL_scale _ (brkL_len _ _ _ _ _)
set_option maxHeartbeats 800000 in
set_option maxRecDepth 8000 in
theorem apply_any (p : Int) (A : Option Addr) (n c : Nat) (M : List (List Int)) (B : Option Addr) (m d : Nat) (v : List Int) (w : World) (hp : 2 ≤ p) (hp2 : p ≤ 13) (hn : n ≤ 65536) (hm : m ≤ 65536) (ha : RdII w A n M) (hM : Tab p m M) (hb : Rd w B m (ints v)) (hv : NumsL p v) :
    Calls Tryz.prog 90 #[.int .i64 p, .slice A n c, .slice B m d] w fun e w' => ∃ A' c', e = .returned (.slice A' n c') ∧ MkI w w' A' n c' (applyL p M v) := by
 have HL := Lib.hid ha.len
 have HT := Lib.hid hM
 have hM0 := Mk.lit (E := 2) (Below.refl w.heap.size w) #[] (by simp)
 clear hM
 go_enter Tryz.func90, Tryz.ntmps90
 go_wp2
 go_loopw [7, 9, 13] (fun out _ i wr => ∃ (j : Nat) (A' : Option Addr) (c' : Nat), j ≤ n ∧ i = .int .i64 j ∧ out = .slice A' j c' ∧ MkI w wr A' j c' (tab j fun i => dotL p (M.getD i []) v)) (fun _ _ i _ => n - (intOf i).toNat)
 case atStart => exact ⟨0, _, _, by omega, rfl, rfl, by simpa [MkI, ints, tab] using hM0⟩
 case round =>
  obtain ⟨j, A', c', hj, rfl, rfl, hM⟩ := hrel
  clear hM0
  by_cases hlt : j < n
  · obtain ⟨g, o, rfl, hxj, A1, c1, hcx, hr1, _⟩ := (ha.below hM.b).at_ hlt
    have HRow := Lib.hid (HT.out M[j] (List.getElem_mem hxj))
    have hle : M[j].length ≤ m := by rw [HRow.out.1]; exact Nat.le_refl _
    have hle2 : M[j].length ≤ 65536 := by omega
    have HV : Hid ((tab (j + 1) fun i => dotL p (M.getD i []) v) = (tab j fun i => dotL p (M.getD i []) v) ++ [dotL p M[j] v]) := Lib.hid (by rw [tab_succ, getD_of_lt [] hxj])
    have hdot := fun w' (hb' : Below wr.heap.size wr w') => dot_any p A1 M[j].length c1 B m d M[j] v w' hp hp2 hle2 hle (hr1.below hb') HRow.out.2 (hb.below (hM.b.trans (hb'.mono hM.b.size))) hv
    have HM := Lib.hid hM
    clear ha hM
    go_wp2_with (first
     | (go_at_call 196; refine (hdot _ zG).mono ?_; rintro e w' ⟨rfl, rfl⟩)
     | (at_builtin; refine wpList_app1 w _ 24 2 _ _ Tryz.underlying24 info_i rfl (by omega) rfl _ _ rfl A' j c' _ _ HM.out (by omega) rfl rfl rfl ?_; intro A2 c2 w2 hM2 _ _))
    go_roundw
    case rel => exact ⟨j + 1, A2, c2, by omega, by go_num, rfl, by rw [HV.out]; simpa [MkI, ints] using hM2⟩
    case measure => simp [intOf]; omega
  · go_wp2
    go_ret
    obtain rfl : j = n := by omega
    exact ⟨_, _, rfl, by unfold applyL; rw [HL.out]; exact hM⟩
set_option maxHeartbeats 1600000 in
set_option maxRecDepth 8000 in
theorem turning1_any (g gx : Nat) (P : Int) (A : Option Addr) (n c : Nat) (sq : List Int) (X : Option Addr) (cx : Nat) (xs : List Int) (Y : Option Addr) (cy : Nat) (v : List Int) (w : World) (hp : 2 ≤ P) (hp2 : P ≤ 13) (hn : n ≤ 6) (ha : Rd w A n (ints sq)) (hs : NumsL P sq) (hx : Rd w X (pw n) (ints xs)) (hxs : NumsL P xs) (hcx : pw n ≤ cx) (hy : Rd w Y n (ints v)) (hys : NumsL P v) (HP : isP P = true) (k0 : Blk w g 26 #[.int .i64 P, .slice A n c]) (kx : Blk w gx 24 #[.slice X (pw n) cx]) :
    Calls Tryz.prog 230 #[.slice Y n cy, .pointer (some ⟨g, 0, none⟩), .pointer (some ⟨gx, 0, none⟩)] w fun e w' => ∃ A' c', e = .returned (.slice A' (n) c') ∧ MkI w w' A' (n) c' (turnL P sq n xs v) := by
 have HPW : pw n ≤ 65536 := Nat.le_trans (pw_le (show n ≤ 10 by omega)) (by decide)
 have HPW64 : pw n ≤ 64 := pw_le hn
 have hp3 := (isP_ge HP).1
 go_enter Tryz.func230, Tryz.ntmps230
 go_wp2
 refine wp_obs 11 [[],[],[],[],[],[],[4,5],[2,3,4,5,6],[1,2,3,4,5,6,7],[0,1,2,3,4,5,6,7,8],[0,1,2,3,4,5,6,7,8,9]] [VIs (.agg #[.int .i64 P, .slice A n c]), VIs (.agg #[.int .i64 P, .slice A n c]), VIs (.agg #[.int .i64 P, .slice A n c]), VIs (.slice X (pw n) cx), VIs (.agg #[.int .i64 P, .slice A n c]), VIs (.slice Y n cy), VSl w (pw n) (vecTo n v n), VSl w (pw n) (brkL P sq n xs (vecTo n v n)), VSl w (pw n) (halfL P (brkL P sq n xs (vecTo n v n))), VSl w (n) (partL n (halfL P (brkL P sq n xs (vecTo n v n)))), VSl w (n) (partL n (halfL P (brkL P sq n xs (vecTo n v n))))] (fun w' => Blk w' g 26 #[.int .i64 P, .slice A n c] ∧ Below w.heap.size w w' ∧ Blk w' gx 24 #[.slice X (pw n) cx]) (by kernel_rfl) (by kernel_rfl) (fun _ _ h hb => ⟨h.1.below hb h.1.lt, h.2.1.trans (hb.mono h.2.1.size), h.2.2.below hb h.2.2.lt⟩) (⟨k0.drew, zG.drew, kx.drew⟩) (fun x => ?_)
 refine zS (fun w' hS hV K hK => ?_) ?_
 · obtain ⟨q0, q1⟩ := hS.1.two; have q2 := hS.2.2.cell 0; simp at q2; go_simp; exact zO hK
 refine zS (fun w' hS hV K hK => ?_) ?_
 · obtain ⟨q0, q1⟩ := hS.1.two; have q2 := hS.2.2.cell 0; simp at q2; go_simp; exact zO hK
 refine zS (fun w' hS hV K hK => ?_) ?_
 · obtain ⟨q0, q1⟩ := hS.1.two; have q2 := hS.2.2.cell 0; simp at q2; go_simp; exact zO hK
 refine zS (fun w' hS hV K hK => ?_) ?_
 · obtain ⟨q0, q1⟩ := hS.1.two; have q2 := hS.2.2.cell 0; simp at q2; go_simp; exact zO hK
 refine zS (fun w' hS hV K hK => ?_) ?_
 · obtain ⟨q0, q1⟩ := hS.1.two; have q2 := hS.2.2.cell 0; simp at q2; go_simp; exact zO hK
 refine zS (fun w' hS hV K hK => ?_) ?_
 · obtain ⟨q0, q1⟩ := hS.1.two; have q2 := hS.2.2.cell 0; simp at q2; go_simp; exact zO hK
 refine zS (fun w' hS hV K hK => ?_) ?_
 · have e4 := zQ hV 4; have e5 := zQ hV 5; obtain ⟨q0, q1⟩ := hS.1.two; have q2 := hS.2.2.cell 0; simp at q2; go_simp; refine (vector_any P A n c _ _ v _ (by omega) (hy.below hS.2.1)).mono ?_; rintro e w1 ⟨A2, c2, rfl, hM⟩; exact hK.out _ _ _ rfl rfl ⟨_, _, rfl, hM.after hS.2.1⟩ hM.b
 refine zS (fun w' hS hV K hK => ?_) ?_
 · have e2 := zQ hV 2; have e3 := zQ hV 3; obtain ⟨A6, c6, e6, h6⟩ := hV 6 (by decide); obtain ⟨q0, q1⟩ := hS.1.two; have q2 := hS.2.2.cell 0; simp at q2; go_simp; refine (bracket_any P A n c sq _ _ xs _ _ (vecTo n v n) _ hp hp2 hn (ha.below hS.2.1) hs (hx.below hS.2.1) hxs hcx h6.rd (vecTo_nums (by omega) n v hys n) h6.2.cap).mono ?_; rintro e w1 ⟨A2, c2, rfl, hM⟩; exact hK.out _ _ _ rfl rfl ⟨_, _, rfl, hM.after hS.2.1⟩ hM.b
 refine zS (fun w' hS hV K hK => ?_) ?_
 · have e1 := zQ hV 1; obtain ⟨A6, c6, e6, h6⟩ := hV 6 (by decide); obtain ⟨A7, c7, e7, h7⟩ := hV 7 (by decide); obtain ⟨q0, q1⟩ := hS.1.two; have q2 := hS.2.2.cell 0; simp at q2; go_simp; refine (halved_any P A n c _ _ (brkL P sq n xs (vecTo n v n)) _ hp3 hp2 hn h7.rd (brkL_nums hp sq n xs (vecTo n v n))).mono ?_; rintro e w1 ⟨A2, c2, rfl, hM⟩; exact hK.out _ _ _ rfl rfl ⟨_, _, rfl, hM.after hS.2.1⟩ hM.b
 refine zS (fun w' hS hV K hK => ?_) ?_
 · have e0 := zQ hV 0; obtain ⟨A6, c6, e6, h6⟩ := hV 6 (by decide); obtain ⟨A7, c7, e7, h7⟩ := hV 7 (by decide); obtain ⟨A8, c8, e8, h8⟩ := hV 8 (by decide); obtain ⟨q0, q1⟩ := hS.1.two; have q2 := hS.2.2.cell 0; simp at q2; go_simp; refine (vectorPart_any P A n c _ _ (halfL P (brkL P sq n xs (vecTo n v n))) _ (by omega) h8.rd).mono ?_; rintro e w1 ⟨A2, c2, rfl, hM⟩; exact hK.out _ _ _ rfl rfl ⟨_, _, rfl, hM.after hS.2.1⟩ hM.b
 refine zS (fun w' hS hV K hK => ?_) ?_
 · obtain ⟨A6, c6, e6, h6⟩ := hV 6 (by decide); obtain ⟨A7, c7, e7, h7⟩ := hV 7 (by decide); obtain ⟨A8, c8, e8, h8⟩ := hV 8 (by decide); obtain ⟨A9, c9, e9, h9⟩ := hV 9 (by decide); obtain ⟨q0, q1⟩ := hS.1.two; have q2 := hS.2.2.cell 0; simp at q2; go_simp; exact hK.out _ _ _ rfl rfl ⟨_, _, rfl, h9⟩ zG
 refine fun w' hS hV => ?_
 have e0 := zT hV 0
 have e1 := zT hV 1
 have e2 := zT hV 2
 have e3 := zT hV 3
 have e4 := zT hV 4
 have e5 := zT hV 5
 obtain ⟨A6, c6, e6, h6⟩ := hV 6 (by decide)
 obtain ⟨A7, c7, e7, h7⟩ := hV 7 (by decide)
 obtain ⟨A8, c8, e8, h8⟩ := hV 8 (by decide)
 obtain ⟨A9, c9, e9, h9⟩ := hV 9 (by decide)
 obtain ⟨A10, c10, e10, h10⟩ := hV 10 (by decide)
 simp only [e0, e1, e2, e3, e4, e5, e6, e7, e8, e9, e10]
 clear e0 e1 e2 e3 e4 e5 e6 e7 e8 e9 e10
 refine wpAny_done (by kernel_rfl) ?_ _
 go_wp2
 go_ret
 exact ⟨_, _, rfl, by rw [← turnL_eq]; exact h10⟩
section
variable {P : Int} {n : Nat} {F G : List Int → Int}
end
/-- Where a vector's numbers lie in its multivector. -/
theorem vecTo_getD {n : Nat} (v : List Int) {b : Nat} (hb : b < pw n) : ∀ k, k ≤ n → (vecTo n v k).getD b 0 = sumTo k fun i => if b = 2 ^ i then v.getD i 0 else 0 := by
 intro k
 induction k with
 | zero => intro _; simp [vecTo, sumTo, List.getD_eq_getElem?_getD, hb]
 | succ k ih =>
  intro hk
  rw [vecTo_succ, sumTo_succ, List.getD_eq_getElem?_getD, List.getElem?_set]
  have hl : 2 ^ k < (vecTo n v k).length := by rw [vecTo_len]; exact two_lt (by omega)
  by_cases h : b = 2 ^ k
  · rw [if_pos h.symm, if_pos hl, if_pos h]
    have h0 : (sumTo k fun i => if b = 2 ^ i then v.getD i 0 else 0) = 0 := sumTo_zero fun i hi => by
     rw [if_neg]
     intro e
     have : 2 ^ i < 2 ^ k := Nat.pow_lt_pow_right (by omega) hi
     omega
    rw [h0]
    simp
  · rw [if_neg (fun e => h e.symm), if_neg h, ← ih (by omega), Int.add_zero, List.getD_eq_getElem?_getD]
theorem unitRow_getD {n k i : Nat} (hi : i < n) : (unitRow n k).getD i 0 = if k = i then 1 else 0 := by
 unfold unitRow
 rw [List.getD_eq_getElem?_getD, List.getElem?_set]
 by_cases h : k = i
 · rw [if_pos h, if_pos (by simp; omega), if_pos h]; rfl
 · rw [if_neg h, if_neg h, List.getElem?_replicate, if_pos hi]; rfl
/-- The columns of a bivector's matrix. -/
def colsL (P : Int) (sq : List Int) (n : Nat) (xs : List Int) : List (List Int) := tab n fun k => turnL P sq n xs (unitRow n k)
theorem colsL_len (P : Int) (sq : List Int) (n : Nat) (xs : List Int) : (colsL P sq n xs).length = n := tab_len _ _
theorem colsL_tab {P : Int} (hp : 2 ≤ P) (sq : List Int) (n : Nat) (xs : List Int) : Tab P n (colsL P sq n xs) :=
 Tab.tab fun _ _ => ⟨turnL_len _ _ _ _ _, turnL_nums hp _ _ _ _⟩
end Go.Proofs.YtmkjdpnoloofjaaGreat
namespace Go.Proofs.YtmkjdpnoloofjaaGreat
theorem bit_eq (a i : Nat) : bit a i = (a.testBit i).toNat := by
 unfold bit
 rw [Nat.testBit_eq_decide_div_mod_eq]
 rcases Nat.mod_two_eq_zero_or_one (a / 2 ^ i) with h | h <;> rw [h] <;> rfl
theorem bit_le (a i : Nat) : bit a i < 2 := by unfold bit; exact Nat.mod_lt _ (by decide)
theorem bit_xor (a b i : Nat) : bit (a ^^^ b) i = (bit a i + bit b i) % 2 := by
 rw [bit_eq, bit_eq, bit_eq, Nat.testBit_xor]
 cases a.testBit i <;> cases b.testBit i <;> rfl
/-- The number of the first k bits. -/
def pcn (a : Nat) : Nat → Nat
 | 0 => 0
 | k + 1 => pcn a k + bit a k
theorem bit_half (a i : Nat) : bit (a / 2) i = bit a (i + 1) := by
 unfold bit
 rw [Nat.div_div_eq_div_mul, Nat.pow_succ, Nat.mul_comm]
theorem pcn_half (a : Nat) : ∀ k, pcn a (k + 1) = a % 2 + pcn (a / 2) k := by
 intro k
 induction k with
 | zero => simp [pcn, bit]
 | succ k ih =>
  rw [pcn, ih, pcn, bit_half, Nat.add_assoc]
theorem pc_pcn : ∀ (k a : Nat), a < 2 ^ k → pc a = pcn a k := by
 intro k
 induction k with
 | zero =>
  intro a h
  obtain rfl : a = 0 := by omega
  rw [pc_zero]; rfl
 | succ k ih =>
  intro a h
  rw [pc_rec, pcn_half, ih _ (by rw [Nat.pow_succ] at h; omega)]
theorem pcn_xor (a b : Nat) : ∀ k, pcn (a ^^^ b) k % 2 = (pcn a k + pcn b k) % 2 := by
 intro k
 induction k with
 | zero => rfl
 | succ k ih =>
  simp only [pcn]
  rw [bit_xor]
  omega
theorem pc_xor (a b : Nat) : pc (a ^^^ b) % 2 = (pc a + pc b) % 2 := by
 obtain ⟨k, ha, hb⟩ : ∃ k, a < 2 ^ k ∧ b < 2 ^ k :=
  ⟨a + b, Nat.lt_of_le_of_lt (Nat.le_add_right a b) Nat.lt_two_pow_self, Nat.lt_of_le_of_lt (Nat.le_add_left b a) Nat.lt_two_pow_self⟩
 rw [pc_pcn k _ (Nat.xor_lt_two_pow ha hb), pc_pcn k _ ha, pc_pcn k _ hb]
 exact pcn_xor a b k
theorem xor_div (a b k : Nat) : (a ^^^ b) / 2 ^ k = (a / 2 ^ k) ^^^ (b / 2 ^ k) := by
 rw [← Nat.shiftRight_eq_div_pow, ← Nat.shiftRight_eq_div_pow, ← Nat.shiftRight_eq_div_pow]
 exact Nat.shiftRight_xor_distrib
theorem swaps_left (a c b : Nat) : ∀ n, swaps (a ^^^ c) b n % 2 = (swaps a b n + swaps c b n) % 2 := by
 intro n
 induction n with
 | zero => rfl
 | succ n ih =>
  simp only [swaps]
  by_cases h : bit b n = 1
  · simp only [if_pos h]
    have := pc_xor (a / 2 ^ (n + 1)) (c / 2 ^ (n + 1))
    rw [xor_div]
    omega
  · simp only [if_neg h]; omega
theorem swaps_right (a b c : Nat) : ∀ n, swaps a (b ^^^ c) n % 2 = (swaps a b n + swaps a c n) % 2 := by
 intro n
 induction n with
 | zero => rfl
 | succ n ih =>
  simp only [swaps]
  rw [bit_xor]
  have h1 := bit_le b n
  have h2 := bit_le c n
  rcases (show bit b n = 0 ∨ bit b n = 1 by omega) with e1 | e1 <;> rcases (show bit c n = 0 ∨ bit c n = 1 by omega) with e2 | e2 <;> simp [e1, e2] <;> omega
/-- 1 or -1: the sign of a number of exchanges. -/
def sg (k : Nat) : Int := if k % 2 = 1 then -1 else 1
theorem sg_add (k l : Nat) : sg (k + l) = sg k * sg l := by
 unfold sg
 rcases Nat.mod_two_eq_zero_or_one k with h | h <;> rcases Nat.mod_two_eq_zero_or_one l with h' | h' <;> simp [Nat.add_mod, h, h']
theorem sg_congr {k l : Nat} (h : k % 2 = l % 2) : sg k = sg l := by unfold sg; rw [h]
theorem sg_two (k : Nat) : sg k * sg k = 1 := by
 unfold sg
 split <;> rfl
/-- The product of the first i squares that both masks have, as an integer. -/
def comZ (sq : List Int) (a b : Nat) : Nat → Int
 | 0 => 1
 | i + 1 => comZ sq a b i * (if bit b i = 1 ∧ bit a i = 1 then sq.getD i 0 else 1)
theorem common_comZ (p : Int) (sq : List Int) (a b : Nat) : ∀ i, common p sq a b i % p = comZ sq a b i % p := by
 intro i
 induction i with
 | zero => rfl
 | succ i ih =>
  simp only [common, comZ]
  split
  · rw [Int.emod_emod_of_dvd _ (Int.dvd_refl p), Int.mul_emod, ih, ← Int.mul_emod]
  · rw [Int.mul_one, ih]
theorem comZ_symm (sq : List Int) (a b : Nat) : ∀ i, comZ sq a b i = comZ sq b a i := by
 intro i
 induction i with
 | zero => rfl
 | succ i ih => simp only [comZ]; rw [ih]; congr 1; simp only [And.comm]
theorem comZ_cocycle (sq : List Int) (a b c : Nat) : ∀ i, comZ sq a b i * comZ sq (a ^^^ b) c i = comZ sq b c i * comZ sq a (b ^^^ c) i := by
 intro i
 induction i with
 | zero => rfl
 | succ i ih =>
  simp only [comZ]
  rw [bit_xor, bit_xor]
  have key : ∀ X Y Z W s t u v : Int, X * Y = Z * W → s * t = u * v → (X * s) * (Y * t) = (Z * u) * (W * v) := fun X Y Z W s t u v h1 h2 => by
   rw [show (X * s) * (Y * t) = (X * Y) * (s * t) by rw [Int.mul_assoc, Int.mul_left_comm s, ← Int.mul_assoc], h1, h2]
   rw [Int.mul_assoc, Int.mul_left_comm W, ← Int.mul_assoc]
  refine key _ _ _ _ _ _ _ _ ih ?_
  have h1 := bit_le a i
  have h2 := bit_le b i
  have h3 := bit_le c i
  rcases (show bit a i = 0 ∨ bit a i = 1 by omega) with e1 | e1 <;> rcases (show bit b i = 0 ∨ bit b i = 1 by omega) with e2 | e2 <;> rcases (show bit c i = 0 ∨ bit c i = 1 by omega) with e3 | e3 <;> simp [e1, e2, e3]
/-- The number by which the product of two blades is that of their different bits, as an integer. -/
def facZ (sq : List Int) (a b : Nat) : Int := sg (swaps a b sq.length) * comZ sq a b sq.length
theorem fac_facZ (p : Int) (sq : List Int) (a b : Nat) : fac p sq a b % p = facZ sq a b % p := by
 unfold fac facZ sg
 split
 · rw [Int.emod_emod_of_dvd _ (Int.dvd_refl p), Int.neg_mul, Int.one_mul, ← Int.zero_sub, ← Int.zero_sub, Int.sub_emod, common_comZ, ← Int.sub_emod]
 · rw [Int.one_mul, common_comZ]
theorem facZ_cocycle (sq : List Int) (a b c : Nat) : facZ sq a b * facZ sq (a ^^^ b) c = facZ sq b c * facZ sq a (b ^^^ c) := by
 unfold facZ
 have hs : sg (swaps a b sq.length) * sg (swaps (a ^^^ b) c sq.length) = sg (swaps b c sq.length) * sg (swaps a (b ^^^ c) sq.length) := by
  rw [← sg_add, ← sg_add]
  apply sg_congr
  have h1 := swaps_left a b c sq.length
  have h2 := swaps_right a b c sq.length
  omega
 have hc := comZ_cocycle sq a b c sq.length
 have key : ∀ X Y Z W s t u v : Int, X * Y = Z * W → s * t = u * v → (X * s) * (Y * t) = (Z * u) * (W * v) := fun X Y Z W s t u v h1 h2 => by
  rw [show (X * s) * (Y * t) = (X * Y) * (s * t) by rw [Int.mul_assoc, Int.mul_left_comm s, ← Int.mul_assoc], h1, h2]
  rw [Int.mul_assoc, Int.mul_left_comm W, ← Int.mul_assoc]
 exact key _ _ _ _ _ _ _ _ hs hc
theorem xor_self_left (a b : Nat) : a ^^^ (a ^^^ b) = b := by rw [← Nat.xor_assoc, Nat.xor_self, Nat.zero_xor]
theorem xor_self_right (a b : Nat) : (b ^^^ a) ^^^ a = b := by rw [Nat.xor_assoc, Nat.xor_self, Nat.xor_zero]
theorem sumTo_xor {n : Nat} (f : Nat → Int) {c : Nat} (hc : c < pw n) : sumTo (pw n) f = sumTo (pw n) fun a => f (a ^^^ c) := by
 have h : ∀ b, b < pw n → f b = sumTo (pw n) fun a => if a ^^^ c = b then f b else 0 := fun b hb => by
  rw [sumTo_one (b ^^^ c) (xor_lt hb hc) fun i _ hne => if_neg fun e => hne (by rw [← e, xor_self_right]), if_pos (xor_self_right c b)]
 rw [sumTo_congr h, sumTo_comm]
 refine sumTo_congr fun a ha => ?_
 rw [sumTo_one (a ^^^ c) (xor_lt ha hc) fun i _ hne => if_neg fun e => hne e.symm, if_pos rfl]
theorem sumTo_mul_right (n : Nat) (f : Nat → Int) (c : Int) : sumTo n (fun i => f i * c) = sumTo n f * c := by
 rw [Int.mul_comm, ← sumTo_mul]
 exact sumTo_congr fun i _ => Int.mul_comm _ _
/-- The product of multivectors over the integers, at place m. -/
def mulZ (sq : List Int) (x y : Nat → Int) (m : Nat) : Int := sumTo (pw sq.length) fun a => x a * y (a ^^^ m) * facZ sq a (a ^^^ m)
theorem mulZ_assoc (sq : List Int) (x y z : Nat → Int) {m : Nat} (hm : m < pw sq.length) : mulZ sq (mulZ sq x y) z m = mulZ sq x (mulZ sq y z) m := by
 unfold mulZ
 rw [sumTo_congr (g := fun c => sumTo (pw sq.length) fun a => x a * y (a ^^^ c) * facZ sq a (a ^^^ c) * (z (c ^^^ m) * facZ sq c (c ^^^ m))) fun c _ => by
  rw [sumTo_mul_right, Int.mul_assoc], sumTo_comm]
 refine sumTo_congr fun a ha => ?_
 rw [sumTo_xor _ ha, ← sumTo_mul, ← sumTo_mul_right]
 refine sumTo_congr fun b hb => ?_
 have e1 : a ^^^ (b ^^^ a) = b := by rw [Nat.xor_comm b, xor_self_left]
 have e2 : (b ^^^ a) ^^^ m = b ^^^ (a ^^^ m) := Nat.xor_assoc _ _ _
 rw [e1, e2]
 have h := facZ_cocycle sq a b (b ^^^ (a ^^^ m))
 rw [xor_self_left, Nat.xor_comm a b] at h
 calc x a * y b * facZ sq a b * (z (b ^^^ (a ^^^ m)) * facZ sq (b ^^^ a) (b ^^^ (a ^^^ m)))
     = x a * y b * z (b ^^^ (a ^^^ m)) * (facZ sq a b * facZ sq (b ^^^ a) (b ^^^ (a ^^^ m))) := by
       rw [Int.mul_assoc (x a * y b), Int.mul_left_comm (facZ sq a b), ← Int.mul_assoc]
   _ = x a * y b * z (b ^^^ (a ^^^ m)) * (facZ sq b (b ^^^ (a ^^^ m)) * facZ sq a (a ^^^ m)) := by rw [h]
   _ = _ := by
       rw [← Int.mul_assoc, Int.mul_assoc (x a), Int.mul_assoc (x a)]
theorem mulZ_cg (p : Int) (sq : List Int) {x x' y y' : Nat → Int} (hx : ∀ a, a < pw sq.length → x a % p = x' a % p) (hy : ∀ a, a < pw sq.length → y a % p = y' a % p) {m : Nat} (hm : m < pw sq.length) : mulZ sq x y m % p = mulZ sq x' y' m % p := by
 unfold mulZ
 refine sumTo_mod p fun a ha => ?_
 have h1 := hx a ha
 have h2 := hy _ (xor_lt ha hm)
 rw [Int.mul_emod, Int.mul_emod (x a), h1, h2, ← Int.mul_emod (x' a), ← Int.mul_emod]
structure Cl (p : Int) (sq : List Int) where
 l : List Int
 len : l.length = pw sq.length
 nums : NumsL p l
 pos : 0 < p
section
variable {p : Int} {sq : List Int}
/-- The number at a place. -/
def Cl.co (x : Cl p sq) (m : Nat) : Int := x.l.getD m 0
theorem Cl.ext {x y : Cl p sq} (h : x.l = y.l) : x = y := by
 cases x; cases y; cases h; rfl
theorem Cl.co_small (x : Cl p sq) (m : Nat) : 0 ≤ x.co m ∧ x.co m < p := x.nums.getD x.pos m
theorem Cl.co_mod (x : Cl p sq) (m : Nat) : x.co m % p = x.co m := Int.emod_eq_of_lt (x.co_small m).1 (x.co_small m).2
theorem Cl.same {x y : Cl p sq} (h : ∀ m, m < pw sq.length → x.co m % p = y.co m % p) : x = y := by
 refine Cl.ext (list_ext_getD 0 (by rw [x.len, y.len]) fun m hm => ?_)
 have := h m (by rw [← x.len]; exact hm)
 rwa [x.co_mod, y.co_mod] at this
/-- The multivector with these numbers. -/
def Cl.of (hp : 0 < p) (f : Nat → Int) : Cl p sq := ⟨tab (pw sq.length) fun m => f m % p, tab_len _ _, NumsL.tab fun _ _ => ⟨Int.emod_nonneg _ (by omega), Int.emod_lt_of_pos _ hp⟩, hp⟩
theorem Cl.of_co (hp : 0 < p) (f : Nat → Int) {m : Nat} (hm : m < pw sq.length) : (Cl.of hp f : Cl p sq).co m = f m % p := tab_getD hm 0
theorem Cl.of_cg (hp : 0 < p) (f : Nat → Int) {m : Nat} (hm : m < pw sq.length) : (Cl.of hp f : Cl p sq).co m % p = f m % p := by rw [Cl.of_co hp f hm, Int.emod_emod_of_dvd _ (Int.dvd_refl p)]
instance : Mul (Cl p sq) := ⟨fun x y => Cl.of x.pos (mulZ sq x.co y.co)⟩
instance : Add (Cl p sq) := ⟨fun x y => Cl.of x.pos fun m => x.co m + y.co m⟩
instance : Neg (Cl p sq) := ⟨fun x => Cl.of x.pos fun m => -(x.co m)⟩
instance : HMul Int (Cl p sq) (Cl p sq) := ⟨fun k x => Cl.of x.pos fun m => k * x.co m⟩
theorem Cl.mul_co (x y : Cl p sq) {m : Nat} (hm : m < pw sq.length) : (x * y).co m % p = mulZ sq x.co y.co m % p := Cl.of_cg _ _ hm
theorem Cl.add_co (x y : Cl p sq) {m : Nat} (hm : m < pw sq.length) : (x + y).co m % p = (x.co m + y.co m) % p := Cl.of_cg _ _ hm
theorem Cl.sm_co (k : Int) (x : Cl p sq) {m : Nat} (hm : m < pw sq.length) : (k * x).co m % p = (k * x.co m) % p := Cl.of_cg _ _ hm
theorem Cl.mul_assoc (x y z : Cl p sq) : x * y * z = x * (y * z) := Cl.same fun m hm => by
 rw [Cl.mul_co _ _ hm, Cl.mul_co _ _ hm, mulZ_cg p sq (fun a ha => Cl.mul_co x y ha) (fun _ _ => rfl) hm, mulZ_assoc sq _ _ _ hm]
 exact mulZ_cg p sq (fun _ _ => rfl) (fun a ha => (Cl.mul_co y z ha).symm) hm
theorem Cl.add_mul (x y z : Cl p sq) : (x + y) * z = x * z + y * z := Cl.same fun m hm => by
 rw [Cl.mul_co _ _ hm, mulZ_cg p sq (fun a ha => Cl.add_co x y ha) (fun _ _ => rfl) hm, Cl.add_co _ _ hm, Int.add_emod, Cl.mul_co _ _ hm, Cl.mul_co _ _ hm, ← Int.add_emod]
 unfold mulZ
 rw [← sumTo_add]
 congr 1
 exact sumTo_congr fun a _ => by rw [Int.add_mul, Int.add_mul]
theorem Cl.mul_add (x y z : Cl p sq) : x * (y + z) = x * y + x * z := Cl.same fun m hm => by
 rw [Cl.mul_co _ _ hm, mulZ_cg p sq (fun _ _ => rfl) (fun a ha => Cl.add_co y z ha) hm, Cl.add_co _ _ hm, Int.add_emod, Cl.mul_co _ _ hm, Cl.mul_co _ _ hm, ← Int.add_emod]
 unfold mulZ
 rw [← sumTo_add]
 congr 1
 exact sumTo_congr fun a _ => by rw [Int.mul_add, Int.add_mul]
theorem Cl.sm_mul (k : Int) (x y : Cl p sq) : (k * x) * y = k * (x * y) := Cl.same fun m hm => by
 rw [Cl.mul_co _ _ hm, mulZ_cg p sq (fun a ha => Cl.sm_co k x ha) (fun _ _ => rfl) hm, Cl.sm_co _ _ hm, Int.mul_emod k, Cl.mul_co _ _ hm, ← Int.mul_emod]
 unfold mulZ
 rw [← sumTo_mul]
 congr 1
 exact sumTo_congr fun a _ => by rw [Int.mul_assoc, Int.mul_assoc, Int.mul_assoc]
theorem Cl.mul_sm (k : Int) (x y : Cl p sq) : x * (k * y) = k * (x * y) := Cl.same fun m hm => by
 rw [Cl.mul_co _ _ hm, mulZ_cg p sq (fun _ _ => rfl) (fun a ha => Cl.sm_co k y ha) hm, Cl.sm_co _ _ hm, Int.mul_emod k, Cl.mul_co _ _ hm, ← Int.mul_emod]
 unfold mulZ
 rw [← sumTo_mul]
 congr 1
 exact sumTo_congr fun a _ => by rw [Int.mul_left_comm, Int.mul_assoc, Int.mul_assoc]
theorem Cl.add_comm (x y : Cl p sq) : x + y = y + x := Cl.same fun m hm => by rw [Cl.add_co _ _ hm, Cl.add_co _ _ hm, Int.add_comm]
theorem Cl.add_assoc (x y z : Cl p sq) : x + y + z = x + (y + z) := Cl.same fun m hm => by
 rw [Cl.add_co _ _ hm, Cl.add_co _ _ hm, Int.add_emod, Cl.add_co _ _ hm, ← Int.add_emod, Int.add_emod (x.co m), Cl.add_co _ _ hm, ← Int.add_emod, Int.add_assoc]
theorem Cl.sm_sm (k j : Int) (x : Cl p sq) : k * (j * x) = (k * j) * x := Cl.same fun m hm => by
 rw [Cl.sm_co _ _ hm, Int.mul_emod, Cl.sm_co _ _ hm, ← Int.mul_emod, Cl.sm_co _ _ hm, Int.mul_assoc]
theorem Cl.sm_add (k : Int) (x y : Cl p sq) : k * (x + y) = k * x + k * y := Cl.same fun m hm => by
 rw [Cl.sm_co _ _ hm, Int.mul_emod, Cl.add_co _ _ hm, ← Int.mul_emod, Cl.add_co _ _ hm, Int.add_emod, Cl.sm_co _ _ hm, Cl.sm_co _ _ hm, ← Int.add_emod, Int.mul_add]
theorem Cl.add_sm (k j : Int) (x : Cl p sq) : (k + j) * x = k * x + j * x := Cl.same fun m hm => by
 rw [Cl.sm_co _ _ hm, Cl.add_co _ _ hm, Int.add_emod, Cl.sm_co _ _ hm, Cl.sm_co _ _ hm, ← Int.add_emod, Int.add_mul]
theorem Cl.sm_cg {k j : Int} (h : k % p = j % p) (x : Cl p sq) : k * x = j * x := Cl.same fun m hm => by
 rw [Cl.sm_co _ _ hm, Cl.sm_co _ _ hm, Int.mul_emod, h, ← Int.mul_emod]
theorem Cl.one_sm (x : Cl p sq) : (1 : Int) * x = x := Cl.same fun m hm => by rw [Cl.sm_co _ _ hm, Int.one_mul]
/-- The numbers of a list, and no more than there are places. -/
def Cl.zero (hp : 0 < p) : Cl p sq := Cl.of hp fun _ => 0
theorem Cl.zero_sm (x : Cl p sq) : (0 : Int) * x = Cl.zero x.pos := Cl.same fun m hm => by
 rw [Cl.sm_co _ _ hm]; unfold Cl.zero; rw [Cl.of_cg _ _ hm, Int.zero_mul]
theorem Cl.add_zero (x : Cl p sq) (hp : 0 < p) : x + Cl.zero hp = x := Cl.same fun m hm => by
 rw [Cl.add_co _ _ hm, Int.add_emod]; unfold Cl.zero; rw [Cl.of_cg _ _ hm, ← Int.add_emod, Int.add_zero]
/-- The multivector 1. -/
def Cl.one (hp : 0 < p) : Cl p sq := Cl.of hp fun m => if m = 0 then 1 else 0
theorem Cl.one_co (hp : 0 < p) {m : Nat} (hm : m < pw sq.length) : (Cl.one hp : Cl p sq).co m % p = (if m = 0 then 1 else 0) % p := Cl.of_cg _ _ hm
theorem swaps_zero_right (a : Nat) : ∀ n, swaps a 0 n = 0 := by
 intro n
 induction n with
 | zero => rfl
 | succ n ih => simp [swaps, ih, bit_zero]
theorem swaps_zero_left (b : Nat) : ∀ n, swaps 0 b n = 0 := by
 intro n
 induction n with
 | zero => rfl
 | succ n ih => simp [swaps, ih, pc_zero]
theorem comZ_zero_left (sq : List Int) (b : Nat) : ∀ n, comZ sq 0 b n = 1 := by
 intro n
 induction n with
 | zero => rfl
 | succ n ih => simp [comZ, ih, bit_zero]
theorem facZ_zero_left (sq : List Int) (b : Nat) : facZ sq 0 b = 1 := by unfold facZ; rw [swaps_zero_left, comZ_zero_left]; rfl
theorem facZ_zero_right (sq : List Int) (a : Nat) : facZ sq a 0 = 1 := by unfold facZ; rw [swaps_zero_right, comZ_symm, comZ_zero_left]; rfl
theorem mulZ_one_left (sq : List Int) (x : Nat → Int) (m : Nat) : mulZ sq (fun m => if m = 0 then 1 else 0) x m = x m := by
 unfold mulZ
 rw [sumTo_one 0 (pw_pos _) fun i _ h => by dsimp only; rw [if_neg h, Int.zero_mul, Int.zero_mul]]
 dsimp only
 rw [if_pos rfl, Nat.zero_xor, facZ_zero_left, Int.one_mul, Int.mul_one]
theorem mulZ_one_right (sq : List Int) (x : Nat → Int) {m : Nat} (hm : m < pw sq.length) : mulZ sq x (fun m => if m = 0 then 1 else 0) m = x m := by
 unfold mulZ
 rw [sumTo_one m hm fun i _ h => by dsimp only; rw [if_neg (fun e => h (by have := (xor_eq_iff i m 0).1 e; rw [this, Nat.xor_zero])), Int.mul_zero, Int.zero_mul]]
 dsimp only
 rw [Nat.xor_self, if_pos rfl, facZ_zero_right, Int.mul_one, Int.mul_one]
theorem Cl.one_mul (hp : 0 < p) (x : Cl p sq) : Cl.one hp * x = x := Cl.same fun m hm => by
 rw [Cl.mul_co _ _ hm, mulZ_cg p sq (fun a ha => Cl.one_co hp ha) (fun _ _ => rfl) hm, mulZ_one_left]
theorem Cl.mul_one (hp : 0 < p) (x : Cl p sq) : x * Cl.one hp = x := Cl.same fun m hm => by
 rw [Cl.mul_co _ _ hm, mulZ_cg p sq (fun _ _ => rfl) (fun a ha => Cl.one_co hp ha) hm, mulZ_one_right sq _ hm]
theorem mulL_co {n : Nat} (hn : sq.length = n) {xs ys : List Int} (hx : xs.length = pw n) (hy : ys.length = pw n) {m : Nat} (hm : m < pw n) : (mulL p sq xs ys).getD m 0 % p = mulZ sq (fun a => xs.getD a 0) (fun a => ys.getD a 0) m % p := by
 subst hn
 unfold mulL
 rw [prodL_getD p sq _ xs ys _ m hx hy hm, Int.emod_emod_of_dvd _ (Int.dvd_refl p)]
 unfold mulZ
 refine sumTo_mod p fun a _ => ?_
 unfold term
 rw [if_pos rfl, Int.mul_emod, fac_facZ, ← Int.mul_emod]
theorem Cl.mul_l (x y : Cl p sq) : (x * y).l = mulL p sq x.l y.l := by
 refine list_ext_getD 0 (by rw [(x * y).len, mulL_len, x.len]) fun m hm => ?_
 rw [(x * y).len] at hm
 have h1 := (x * y).co_mod m
 have h2 := Cl.mul_co x y hm
 have h3 := mulL_co (p := p) rfl x.len y.len hm
 have h4 := (mulL_nums x.pos sq x.l y.l).getD x.pos m
 rw [Int.emod_eq_of_lt h4.1 h4.2] at h3
 rw [h3]
 rw [h1] at h2
 exact h2
theorem Cl.one_l (hp : 2 ≤ p) : (Cl.one (by omega) : Cl p sq).l = bladeL sq.length 0 := by
 refine list_ext_getD 0 (by rw [Cl.len, bladeL_len]) fun m hm => ?_
 rw [Cl.len] at hm
 rw [bladeL_getD _ _ _ hm]
 show (Cl.one _ : Cl p sq).co m = _
 unfold Cl.one
 rw [Cl.of_co _ _ hm]
 by_cases h : m = 0
 · rw [if_pos h, if_pos h.symm, Int.emod_eq_of_lt (by omega) (by omega)]
 · rw [if_neg h, if_neg (fun e => h e.symm), Int.zero_emod]
theorem Cl.sm_l (x : Cl p sq) (k : Int) : (k * x).l = scaleL p x.l k := by
 refine list_ext_getD 0 (by rw [Cl.len, scaleL_len, x.len]) fun m hm => ?_
 rw [Cl.len] at hm
 rw [scaleL_getD _ (by rw [x.len]; exact hm)]
 have h1 := (k * x).co_mod m
 rw [Cl.sm_co _ _ hm, Int.mul_comm] at h1
 exact h1.symm
end
end Go.Proofs.YtmkjdpnoloofjaaGreat

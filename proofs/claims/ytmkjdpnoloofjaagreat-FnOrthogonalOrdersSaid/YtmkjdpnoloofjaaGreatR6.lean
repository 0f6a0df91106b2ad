/-
  LawFnOrthogonalOrders: part 6 of the texts that the proof needs. No condition.
-/
import Derived.Test.YtmkjdpnoloofjaaGreatR5
namespace Go.Proofs.YtmkjdpnoloofjaaGreat
theorem cg_add {p a b c d : Int} (h : a % p = b % p) (h' : c % p = d % p) : (a + c) % p = (b + d) % p := by rw [Int.add_emod, h, h', ← Int.add_emod]
theorem cg_mul {p a b c d : Int} (h : a % p = b % p) (h' : c % p = d % p) : a * c % p = b * d % p := by rw [Int.mul_emod, h, h', ← Int.mul_emod]
theorem cg_self (p a : Int) : a % p % p = a % p := Int.emod_emod_of_dvd _ (Int.dvd_refl p)
theorem sumTo_two {n : Nat} {f : Nat → Int} (a b : Nat) (ha : a < n) (hb : b < n) (hab : a ≠ b) (h : ∀ i, i < n → i ≠ a → i ≠ b → f i = 0) : sumTo n f = f a + f b := by
 have e : sumTo n f = sumTo n (fun i => (if i = a then f i else 0) + (if i = a then 0 else f i)) := sumTo_congr fun i _ => by split <;> omega
 rw [e, sumTo_add, sumTo_one (f := fun i => if i = a then f i else 0) a ha (fun i _ hi => if_neg hi), sumTo_one (f := fun i => if i = a then 0 else f i) b hb (fun i hi hib => by
  by_cases hia : i = a
  · exact if_pos hia
  · simp only [if_neg hia]; exact h i hi hia hib)]
 rw [if_pos rfl, if_neg (Ne.symm hab)]
/-- A sum of multiples of the rows. -/
def Sp (p : Int) (n : Nat) (m : List (List Int)) (v : Nat → Int) : Prop := ∃ c : Nat → Int, ∀ q, q < n → v q % p = (sumTo m.length fun i => c i * ent m i q) % p
theorem Sp.congr {p : Int} {n : Nat} {m : List (List Int)} {v u : Nat → Int} (h : Sp p n m v) (e : ∀ q, q < n → v q % p = u q % p) : Sp p n m u := by
 obtain ⟨c, hc⟩ := h
 exact ⟨c, fun q hq => (e q hq).symm.trans (hc q hq)⟩
theorem Sp.zero (p : Int) (n : Nat) (m : List (List Int)) : Sp p n m fun _ => 0 := ⟨fun _ => 0, fun q _ => by rw [sumTo_zero fun i _ => Int.zero_mul _]⟩
theorem Sp.add {p : Int} {n : Nat} {m : List (List Int)} {v u : Nat → Int} (h : Sp p n m v) (h' : Sp p n m u) : Sp p n m fun q => v q + u q := by
 obtain ⟨c, hc⟩ := h
 obtain ⟨d, hd⟩ := h'
 refine ⟨fun i => c i + d i, fun q hq => ?_⟩
 rw [sumTo_congr (g := fun i => c i * ent m i q + d i * ent m i q) fun i _ => Int.add_mul _ _ _, sumTo_add]
 exact cg_add (hc q hq) (hd q hq)
theorem Sp.mul {p : Int} {n : Nat} {m : List (List Int)} {v : Nat → Int} (h : Sp p n m v) (k : Int) : Sp p n m fun q => k * v q := by
 obtain ⟨c, hc⟩ := h
 refine ⟨fun i => k * c i, fun q hq => ?_⟩
 rw [sumTo_congr (g := fun i => k * (c i * ent m i q)) fun i _ => Int.mul_assoc _ _ _, sumTo_mul]
 exact cg_mul rfl (hc q hq)
theorem Sp.row {p : Int} {n : Nat} {m : List (List Int)} {i : Nat} (hi : i < m.length) : Sp p n m fun q => ent m i q := by
 refine ⟨fun j => if j = i then 1 else 0, fun q _ => ?_⟩
 rw [sumTo_one (f := fun j => (if j = i then 1 else 0) * ent m j q) i hi (fun j _ hj => by simp only [if_neg hj, Int.zero_mul])]
 simp
theorem Sp.mem {p : Int} {n : Nat} {m : List (List Int)} {x : List Int} (hx : x ∈ m) : Sp p n m fun q => x.getD q 0 := by
 obtain ⟨i, hi, rfl⟩ := List.getElem_of_mem hx
 refine (Sp.row hi).congr fun q _ => ?_
 unfold ent; rw [getD_of_lt [] hi]
theorem Sp.sum {p : Int} {n : Nat} {m : List (List Int)} (k : Nat) {f : Nat → Nat → Int} (h : ∀ i, i < k → Sp p n m (f i)) : Sp p n m fun q => sumTo k fun i => f i q := by
 induction k with
 | zero => exact Sp.zero p n m
 | succ k ih => exact (ih fun i hi => h i (by omega)).add (h k (by omega))
/-- All rows of the first are made of those of the second. -/
def InSp (p : Int) (n : Nat) (m m' : List (List Int)) : Prop := ∀ i, i < m.length → Sp p n m' fun q => ent m i q
theorem InSp.sp {p : Int} {n : Nat} {m m' : List (List Int)} (h : InSp p n m m') {v : Nat → Int} (hv : Sp p n m v) : Sp p n m' v := by
 obtain ⟨c, hc⟩ := hv
 exact (Sp.sum m.length fun i hi => (h i hi).mul (c i)).congr fun q hq => (hc q hq).symm
theorem InSp.refl (p : Int) (n : Nat) (m : List (List Int)) : InSp p n m m := fun _ hi => Sp.row hi
theorem InSp.trans {p : Int} {n : Nat} {m m' m2 : List (List Int)} (h : InSp p n m m') (h' : InSp p n m' m2) : InSp p n m m2 := fun i hi => h'.sp (h i hi)
theorem InSp.of_mem {p : Int} {n : Nat} {m m' : List (List Int)} (h : ∀ x ∈ m, Sp p n m' fun q => x.getD q 0) : InSp p n m m' := fun i hi =>
 (h _ (List.getElem_mem hi)).congr fun q _ => by unfold ent; rw [getD_of_lt [] hi]
theorem InSp.of_sub {p : Int} {n : Nat} {m m' : List (List Int)} (h : ∀ x ∈ m, x ∈ m') : InSp p n m m' := InSp.of_mem fun x hx => Sp.mem (h x hx)
/-- Two numbers that have the same remainder and are remainders. -/
theorem cg_eq {p a b : Int} (ha : 0 ≤ a ∧ a < p) (hb : 0 ≤ b ∧ b < p) (h : a % p = b % p) : a = b := by
 rwa [Int.emod_eq_of_lt ha.1 ha.2, Int.emod_eq_of_lt hb.1 hb.2] at h
theorem scaledAt_in {p : Int} (hP : isP p = true) {n : Nat} {m : List (List Int)} (hT : Tab p n m) {k d : Nat} (hd : d < m.length) (hv : pivOf m k d < m.length) :
    InSp p n (scaledAt p m k d) m ∧ InSp p n m (scaledAt p m k d) := by
 have hp : 2 ≤ p := by have := isP_ge hP; omega
 have hlen := scaledAt_len p m k d
 have hE := fun r q hq => ent_scaled (p := p) (k := k) rfl hd hv hT r q hq
 obtain ⟨hb1, hb2⟩ := pivOf_bound m k d (by omega)
 have hx : ent m (pivOf m k d) k ≠ 0 := piv_at m k _ _ (by unfold pivOf at hv; omega)
 obtain ⟨x1, x2⟩ := hT.ent (by omega) (pivOf m k d) k
 obtain ⟨i1, i2, i3⟩ := inv_spec hP (show 0 < ent m (pivOf m k d) k by omega) x2
 have hinv : ent m (pivOf m k d) k * invF p (ent m (pivOf m k d) k) % p = 1 := (i3 _ (by omega) i2).2 rfl
 obtain ⟨v, hv'⟩ : ∃ v, v = pivOf m k d := ⟨_, rfl⟩
 rw [← hv'] at hE hx x1 x2 hinv hv hb1 hb2
 obtain ⟨y, hy⟩ : ∃ y, y = invF p (ent m v k) := ⟨_, rfl⟩
 rw [← hy] at hE hinv
 constructor
 · intro r hr
   rw [hlen] at hr
   by_cases h1 : r = d
   · refine ((Sp.row hv).mul y).congr fun q hq => ?_
     rw [hE r q hq, if_pos h1, cg_self, Int.mul_comm]
   · by_cases h2 : r = v
     · refine (Sp.row hd).congr fun q hq => ?_
       rw [hE r q hq, if_neg h1, if_pos h2]
     · refine (Sp.row hr).congr fun q hq => ?_
       rw [hE r q hq, if_neg h1, if_neg h2]
 · intro r hr
   by_cases h2 : r = v
   · refine ((Sp.row (show d < (scaledAt p m k d).length by omega)).mul (ent m v k)).congr fun q hq => ?_
     rw [hE d q hq, if_pos rfl, h2]
     have e1 : ent m v k * (ent m v q * y % p) % p = ent m v k * (ent m v q * y) % p := cg_mul rfl (cg_self _ _)
     have e2 : ent m v k * (ent m v q * y) = ent m v q * (ent m v k * y) := by rw [Int.mul_comm (ent m v q) y, ← Int.mul_assoc, Int.mul_comm]
     rw [e1, e2]
     have e3 : ent m v q * (ent m v k * y) % p = ent m v q * 1 % p := cg_mul rfl (by rw [hinv, Int.emod_eq_of_lt (by omega) (by omega)])
     rw [e3, Int.mul_one]
   · by_cases h1 : r = d
     · refine (Sp.row (show v < (scaledAt p m k d).length by omega)).congr fun q hq => ?_
       rw [hE v q hq, if_neg (fun e => h2 (h1.trans e.symm)), if_pos rfl, h1]
     · refine (Sp.row (show r < (scaledAt p m k d).length by omega)).congr fun q hq => ?_
       rw [hE r q hq, if_neg h1, if_neg h2]
theorem clearTo_in {p : Int} {n : Nat} {m : List (List Int)} (hT : Tab p n m) {k d : Nat} (hd : d < m.length) :
    InSp p n (clearTo p m d k m.length) m ∧ InSp p n m (clearTo p m d k m.length) := by
 have hlen := clearTo_len p m d k m.length
 have hE := fun r q hr hq => ent_cleared (p := p) hT d k r q hr hq
 constructor
 · intro r hr
   rw [hlen] at hr
   by_cases h1 : r = d
   · refine (Sp.row hd).congr fun q hq => ?_
     rw [hE r q hr hq, if_pos h1]
   · refine ((Sp.row hr).add ((Sp.row hd).mul (-(ent m r k)))).congr fun q hq => ?_
     rw [hE r q hr hq, if_neg h1, cg_self]
 · intro r hr
   by_cases h1 : r = d
   · refine (Sp.row (show d < (clearTo p m d k m.length).length by omega)).congr fun q hq => ?_
     rw [hE d q hd hq, if_pos rfl, h1]
   · refine ((Sp.row (show r < (clearTo p m d k m.length).length by omega)).add ((Sp.row (show d < (clearTo p m d k m.length).length by omega)).mul (ent m r k))).congr fun q hq => ?_
     rw [hE r q hr hq, if_neg h1, hE d q hd hq, if_pos rfl]
     refine (cg_add (cg_self _ _) rfl).trans ?_
     congr 1
     rw [Int.neg_mul]; omega
theorem stepB_in {p : Int} (hP : isP p = true) {n : Nat} {s : List (List Int) × Nat} {k : Nat} (hT : Tab p n s.1) (hd : s.2 ≤ s.1.length) : InSp p n (stepB p k s).1 s.1 ∧ InSp p n s.1 (stepB p k s).1 := by
 unfold stepB
 split
 · exact ⟨InSp.refl _ _ _, InSp.refl _ _ _⟩
 · rename_i hne
   have hb := pivOf_bound s.1 k s.2 hd
   have hp : 2 ≤ p := by have := isP_ge hP; omega
   obtain ⟨a1, a2⟩ := scaledAt_in (k := k) hP hT (show s.2 < s.1.length by omega) (by omega)
   obtain ⟨b1, b2⟩ := clearTo_in (k := k) (d := s.2) (scaledAt_tab (p := p) (k := k) (by omega) hT (show s.2 < s.1.length by omega) (by omega)) (by rw [scaledAt_len]; omega)
   rw [scaledAt_len] at b1 b2
   exact ⟨b1.trans a1, a2.trans b2⟩
theorem basisTo_in {p : Int} (hP : isP p = true) {n : Nat} (m : List (List Int)) (hT : Tab p n m) (k : Nat) (hk : k ≤ n) : InSp p n (basisTo p m k).1 m ∧ InSp p n m (basisTo p m k).1 := by
 have hp : 2 ≤ p := by have := isP_ge hP; omega
 induction k with
 | zero => exact ⟨InSp.refl _ _ _, InSp.refl _ _ _⟩
 | succ k ih =>
  obtain ⟨h1, h2⟩ := ih (by omega)
  obtain ⟨t1, t2, t3⟩ := basisTo_inv (p := p) (by omega) m hT k
  obtain ⟨g1, g2⟩ := stepB_in (k := k) hP (s := basisTo p m k) t1 (by omega)
  exact ⟨g1.trans h1, h2.trans g2⟩
/-- The reduced basis makes what the rows make. -/
theorem basisL_in {p : Int} (hP : isP p = true) {n : Nat} (m : List (List Int)) (hT : Tab p n m) : InSp p n (basisL p m) m ∧ InSp p n m (basisL p m) := by
 have hp : 2 ≤ p := by have := isP_ge hP; omega
 by_cases h0 : 0 < m.length
 · have hl := row0_len hT h0
   obtain ⟨a1, a2⟩ := basisTo_in hP m hT n (Nat.le_refl _)
   obtain ⟨c, hc⟩ := basisTo_ech hP m hT n (Nat.le_refl _)
   obtain ⟨h1, h2, h3⟩ := basisTo_inv (p := p) (by omega) m hT n
   have e : basisL p m = (basisTo p m n).1.take (basisTo p m n).2 := by unfold basisL; rw [hl]
   constructor
   · refine InSp.trans (InSp.of_sub fun x hx => ?_) a1
     rw [e] at hx
     exact List.mem_of_mem_take hx
   · refine a2.trans fun i hi => ?_
     by_cases hid : i < (basisTo p m n).2
     · refine (Sp.mem (x := (basisTo p m n).1[i]) ?_).congr fun q _ => by unfold ent; rw [getD_of_lt [] hi]
       rw [e]
       exact List.mem_take_iff_getElem.2 ⟨i, by omega, rfl⟩
     · exact (Sp.zero _ _ _).congr fun q hq => by rw [hc.rest i (by omega) hi q hq]
 · obtain rfl : m = [] := List.eq_nil_of_length_eq_zero (by omega)
   rw [basisL_nil]
   exact ⟨InSp.refl _ _ _, InSp.refl _ _ _⟩
/-- Orthogonal to all rows. -/
def Orth (p : Int) (n : Nat) (m : List (List Int)) (v : Nat → Int) : Prop := ∀ i, i < m.length → (sumTo n fun q => ent m i q * v q) % p = 0
theorem Orth.sp {p : Int} {n : Nat} {m : List (List Int)} {v : Nat → Int} (h : Orth p n m v) {u : Nat → Int} (hu : Sp p n m u) : (sumTo n fun q => u q * v q) % p = 0 := by
 obtain ⟨c, hc⟩ := hu
 have e1 : (sumTo n fun q => u q * v q) % p = (sumTo n fun q => sumTo m.length fun i => c i * (ent m i q * v q)) % p := by
  refine sumTo_mod p fun q hq => ?_
  rw [sumTo_congr (f := fun i => c i * (ent m i q * v q)) (g := fun i => v q * (c i * ent m i q)) (fun i _ => by rw [Int.mul_comm (v q), Int.mul_assoc]), sumTo_mul, Int.mul_comm (v q)]
  exact cg_mul (hc q hq) rfl
 rw [e1, sumTo_comm]
 refine (sumTo_mod p (g := fun _ => 0) fun i hi => ?_).trans (by rw [sumTo_zero fun _ _ => rfl]; rfl)
 rw [sumTo_mul, Int.mul_emod, h i hi]; simp
theorem Orth.of_in {p : Int} {n : Nat} {m m' : List (List Int)} {v : Nat → Int} (h : Orth p n m v) (hi : InSp p n m' m) : Orth p n m' v := fun i hl => h.sp (hi i hl)
theorem freeRow_at {p : Int} {B : List (List Int)} {n f k : Nat} (hk : k < n) : (freeRow p B n f).getD k 0 = if k = f then 1 else match ldIdx B k with | some i => (-(ent B i f)) % p | none => 0 := by
 unfold freeRow freePart
 rw [tab_getD hk]; simp <;> rfl
theorem freeRow_ld {p : Int} {B : List (List Int)} {n f i : Nat} (hR : Red n B) (hi : i < B.length) (hf : isLd B f = false) : (freeRow p B n f).getD (ld B i) 0 = (-(ent B i f)) % p := by
 rw [freeRow_at (hR.lt i hi), if_neg (fun e => by rw [isLd_iff.2 ⟨i, hi, e⟩] at hf; cases hf), ldIdx_some hR hi]
theorem freeRow_own {p : Int} {B : List (List Int)} {n f : Nat} (hf : f < n) : (freeRow p B n f).getD f 0 = 1 := by rw [freeRow_at hf, if_pos rfl]
theorem freeRow_no {p : Int} {B : List (List Int)} {n f k : Nat} (hk : k < n) (hkf : k ≠ f) (hl : isLd B k = false) : (freeRow p B n f).getD k 0 = 0 := by rw [freeRow_at hk, if_neg hkf, ldIdx_none hl]
theorem freeRow_orth {p : Int} {B : List (List Int)} {n f : Nat} (hR : Red n B) (hf : f < n) (hl : isLd B f = false) : Orth p n B fun q => (freeRow p B n f).getD q 0 := fun i hi => by
 have hne : ld B i ≠ f := fun e => by rw [isLd_iff.2 ⟨i, hi, e⟩] at hl; cases hl
 rw [sumTo_two (f := fun q => ent B i q * (freeRow p B n f).getD q 0) (ld B i) f (hR.lt i hi) hf hne (fun q hq h1 h2 => by
  cases hq' : isLd B q with
  | false => simp only [freeRow_no hq h2 hq', Int.mul_zero]
  | true =>
   obtain ⟨j, hj, rfl⟩ := isLd_iff.1 hq'
   simp only [hR.zero j i hj hi (fun e => h1 (by rw [e])), Int.zero_mul]), freeRow_ld hR hi hl, freeRow_own hf, hR.one i hi, Int.one_mul, Int.mul_one]
 refine (cg_add (cg_self _ _) rfl).trans ?_
 rw [Int.add_comm, ← Int.sub_eq_add_neg, Int.sub_self]; rfl
theorem freeTo_mem {p : Int} {B : List (List Int)} {n k : Nat} {x : List Int} : x ∈ freeTo p B n k ↔ ∃ f, f < k ∧ isLd B f = false ∧ x = freeRow p B n f := by
 unfold freeTo
 rw [List.mem_map]
 constructor
 · rintro ⟨f, hf, rfl⟩
   rw [List.mem_filter] at hf
   exact ⟨f, by simpa using hf.1, by simpa using hf.2, rfl⟩
 · rintro ⟨f, h1, h2, rfl⟩
   exact ⟨f, List.mem_filter.2 ⟨by simpa using h1, by simp [h2]⟩, rfl⟩
/-- What the free rows make is what is orthogonal to the reduced basis. -/
theorem freeTo_sp {p : Int} {B : List (List Int)} {n : Nat} (hR : Red n B) {v : Nat → Int} : Sp p n (freeTo p B n n) v ↔ Orth p n B v := by
 constructor
 · rintro ⟨c, hc⟩ i hi
   have h2 : Orth p n (freeTo p B n n) fun q => ent B i q := fun r hr => by
    have hx := List.getElem_mem hr
    obtain ⟨f, hf, hl, e⟩ := freeTo_mem.1 hx
    have := freeRow_orth (p := p) hR hf hl i hi
    rw [sumTo_congr (g := fun q => ent B i q * (freeRow p B n f).getD q 0) fun q _ => by unfold ent; rw [getD_of_lt [] hr, e, Int.mul_comm]]
    exact this
   have := h2.sp ⟨c, hc⟩
   rw [sumTo_congr (g := fun q => v q * ent B i q) fun q _ => Int.mul_comm _ _]
   exact this
 · intro h
   have hmem : Sp p n (freeTo p B n n) fun q => sumTo n fun f => if isLd B f then 0 else v f * (freeRow p B n f).getD q 0 := Sp.sum n fun f hf => by
    cases hl : isLd B f with
    | true => simp only [if_true]; exact Sp.zero _ _ _
    | false => simp only [Bool.false_eq_true, if_false]; exact (Sp.mem (freeTo_mem.2 ⟨f, hf, hl, rfl⟩)).mul (v f)
   refine hmem.congr fun q hq => ?_
   cases hl : isLd B q with
   | false =>
    rw [sumTo_one (f := fun f => if isLd B f then 0 else v f * (freeRow p B n f).getD q 0) q hq (fun f hf hfq => by
     cases hlf : isLd B f with
     | true => simp
     | false => simp only [Bool.false_eq_true, if_false, freeRow_no hq (Ne.symm hfq) hl, Int.mul_zero])]
    simp only [hl, Bool.false_eq_true, if_false, freeRow_own hq, Int.mul_one]
   | true =>
    obtain ⟨i, hi, rfl⟩ := isLd_iff.1 hl
    have ho := h i hi
    have e1 : (sumTo n fun f => ent B i f * v f) % p = (sumTo n fun f => (if f = ld B i then v f else 0) + (-1) * (if isLd B f then 0 else v f * (freeRow p B n f).getD (ld B i) 0)) % p := by
     refine sumTo_mod p fun f hf => ?_
     cases hlf : isLd B f with
     | true =>
      obtain ⟨j, hj, rfl⟩ := isLd_iff.1 hlf
      simp only [if_true, Int.mul_zero, Int.add_zero]
      by_cases hji : j = i
      · subst hji; rw [if_pos rfl, hR.one j hj, Int.one_mul]
      · rw [if_neg (fun e => hji (hR.inj hj hi e)), hR.zero j i hj hi (Ne.symm hji), Int.zero_mul]
     | false =>
      have hne : f ≠ ld B i := fun e => by rw [e, hl] at hlf; cases hlf
      simp only [Bool.false_eq_true, if_false, if_neg hne, Int.zero_add, freeRow_ld hR hi hlf]
      have : -1 * (v f * (-(ent B i f) % p)) % p = -1 * (v f * (-(ent B i f))) % p := cg_mul rfl (cg_mul rfl (cg_self _ _))
      rw [this]; congr 1
      rw [Int.mul_neg, Int.neg_mul, Int.one_mul, Int.neg_neg, Int.mul_comm]
    rw [e1, sumTo_add, sumTo_mul, sumTo_one (f := fun f => if f = ld B i then v f else 0) (ld B i) hq (fun f _ hf => if_neg hf), if_pos rfl] at ho
    obtain ⟨S, hS⟩ : ∃ S, S = sumTo n fun f => if isLd B f then 0 else v f * (freeRow p B n f).getD (ld B i) 0 := ⟨_, rfl⟩
    rw [← hS] at ho ⊢
    have := cg_add (ho.trans (Int.zero_emod p).symm) (show S % p = S % p from rfl)
    rw [Int.zero_add] at this
    rw [← this]; congr 1; omega
theorem kernL_sp {p : Int} (hP : isP p = true) {n : Nat} {m : List (List Int)} (hT : Tab p n m) {v : Nat → Int} : Sp p n (kernL p m n) v ↔ Orth p n m v := by
 have hp : 2 ≤ p := by have := isP_ge hP; omega
 obtain ⟨a1, a2⟩ := basisL_in hP m hT
 obtain ⟨b1, b2⟩ := basisL_in hP _ (freeTo_tab (p := p) hp (basisL p m) n n)
 constructor
 · exact fun h => ((freeTo_sp (basisL_red hP m hT)).1 (b1.sp h)).of_in a2
 · exact fun h => b2.sp ((freeTo_sp (basisL_red hP m hT)).2 (h.of_in a1))
theorem half_ok {p : Int} (hP : isP p = true) : (p + 1) / 2 * 2 % p = 1 % p := by
 simp only [isP, Bool.or_eq_true, beq_iff_eq] at hP
 rcases hP with (((rfl | rfl) | rfl) | rfl) | rfl <;> decide
theorem inv_mod {p a : Int} (hP : isP p = true) (h : a % p ≠ 0) : a * invF p (a % p) % p = 1 := by
 have h3 := (isP_ge hP).1
 have h1 := Int.emod_nonneg a (show p ≠ 0 by omega)
 have h2 := Int.emod_lt_of_pos a (show 0 < p by omega)
 have hs := inv_spec hP (show 0 < a % p by omega) h2
 have := (hs.2.2 (invF p (a % p)) (by omega) hs.2.1).2 rfl
 rw [Int.mul_emod, Int.emod_emod_of_dvd _ (Int.dvd_refl p)] at this
 rw [Int.mul_emod]
 exact this
section
variable {p : Int} {sq : List Int}
theorem Cl.two (x : Cl p sq) : x + x = (2 : Int) * x := by
 have := Cl.add_sm 1 1 x
 rw [Cl.one_sm] at this
 exact this.symm
theorem Cl.half {x y : Cl p sq} (hP : isP p = true) (h : (2 : Int) * x = (2 : Int) * y) : x = y := by
 have e : ∀ z : Cl p sq, ((p + 1) / 2 : Int) * ((2 : Int) * z) = z := fun z => by rw [Cl.sm_sm, Cl.sm_cg (half_ok hP), Cl.one_sm]
 rw [← e x, h, e y]
theorem Cl.add_back (x y : Cl p sq) (k : Int) : x + k * y + (-k) * y = x := by
 rw [Cl.add_assoc, ← Cl.add_sm, show k + -k = 0 by omega, Cl.zero_sm, Cl.add_zero]
theorem Cl.move {x y z : Cl p sq} {k : Int} (h : x + k * y = z) : x = z + (-k) * y := by rw [← h, Cl.add_back]
theorem Cl.vec_plus (hp : 0 < p) {a b : List Int} (ha : a.length = sq.length) (k : Int) : (Cl.vec hp (plusL p a b k) : Cl p sq) = Cl.vec hp a + k * Cl.vec hp b := Cl.same fun m hm => by
 rw [Cl.vec_co hp _ hm, Cl.add_co _ _ hm, Int.add_emod, Cl.vec_co hp _ hm, Cl.sm_co _ _ hm, Int.mul_emod, Cl.vec_co hp _ hm, ← Int.mul_emod, ← Int.add_emod, ← sumTo_mul, ← sumTo_add]
 refine sumTo_mod p fun i hi => ?_
 by_cases h : m = 2 ^ i
 · rw [if_pos h, if_pos h, if_pos h, plusL_getD _ _ (by omega), Int.emod_emod_of_dvd _ (Int.dvd_refl p)]
 · rw [if_neg h, if_neg h, if_neg h, Int.mul_zero]; rfl
theorem Cl.vec_at (hp : 0 < p) {v : List Int} (hv : NumsL p v) (hl : v.length = sq.length) : partL sq.length (Cl.vec hp v : Cl p sq).l = v := by
 refine list_ext_getD 0 (by rw [partL_len, hl]) fun i hi => ?_
 rw [partL_len] at hi
 have e : (partL sq.length (Cl.vec hp v : Cl p sq).l).getD i 0 = (Cl.vec hp v : Cl p sq).co (2 ^ i) := by
  unfold partL
  rw [getD_of_lt 0 (by simpa using hi), List.getElem_map, List.getElem_range]; rfl
 rw [e, ← Cl.co_mod, Cl.vec_co hp v (two_lt hi), sumTo_one i hi fun j hj hne => if_neg fun e => hne (pow_inj e).symm, if_pos rfl]
 have := hv.getD hp i
 exact Int.emod_eq_of_lt this.1 this.2
theorem Cl.vec_rev (hp : 0 < p) (v : List Int) : (Cl.vec hp v : Cl p sq).rev = Cl.vec hp v := Cl.same fun m hm => by
 rw [Cl.rev_co _ hm, Int.mul_emod, Cl.vec_co hp v hm, ← Int.mul_emod, ← sumTo_mul]
 congr 1
 refine sumTo_congr fun i _ => ?_
 by_cases h : m = 2 ^ i
 · rw [if_pos h, h]
   have : sgR (2 ^ i) = 1 := by unfold sgR; rw [pc_pow]; rfl
   rw [this, Int.one_mul]
 · rw [if_neg h, Int.mul_zero]
theorem Cl.vec_invo (hp : 0 < p) (v : List Int) : (Cl.vec hp v : Cl p sq).invo = (-1 : Int) * Cl.vec hp v := Cl.same fun m hm => by
 rw [Cl.invo_co _ hm, Int.mul_emod, Cl.vec_co hp v hm, ← Int.mul_emod, Cl.sm_co _ _ hm, Int.mul_emod (-1), Cl.vec_co hp v hm, ← Int.mul_emod, ← sumTo_mul, ← sumTo_mul]
 congr 1
 refine sumTo_congr fun i _ => ?_
 by_cases h : m = 2 ^ i
 · rw [if_pos h, h]
   have : sgI (2 ^ i) = -1 := by unfold sgI; rw [pc_pow]; rfl
   rw [this]
 · rw [if_neg h, Int.mul_zero, Int.mul_zero]
theorem Cl.vec_sq (hp : 0 < p) (hP : isP p = true) (v : List Int) : (Cl.vec hp v : Cl p sq) * Cl.vec hp v = bil sq v v * Cl.one hp := by
 refine Cl.half hP ?_
 rw [← Cl.two, Cl.vec_anti, Cl.sm_sm]
/-- What a vector on both sides does to a vector. -/
theorem Cl.vec_both (hp : 0 < p) (hP : isP p = true) (u w : List Int) : (Cl.vec hp u : Cl p sq) * Cl.vec hp w * Cl.vec hp u = (2 * bil sq u w) * Cl.vec hp u + (-(bil sq u u)) * Cl.vec hp w := by
 refine Cl.move ?_
 have h := congrArg (fun z : Cl p sq => z * Cl.vec hp u) (Cl.vec_anti hp u w)
 simp only [Cl.add_mul, Cl.sm_mul, Cl.one_mul] at h
 rw [Cl.mul_assoc (Cl.vec hp w), Cl.vec_sq hp hP, Cl.mul_sm, Cl.mul_one] at h
 exact h
theorem bil_plus {u : List Int} {a b : List Int} (ha : a.length = sq.length) (k : Int) : bil sq (plusL p a b k) u % p = (bil sq a u + k * bil sq b u) % p := by
 unfold bil
 rw [← sumTo_mul, ← sumTo_add]
 refine sumTo_mod p fun i hi => ?_
 rw [plusL_getD _ _ (by omega), Int.mul_assoc, Int.mul_emod, Int.emod_emod_of_dvd _ (Int.dvd_refl p), ← Int.mul_emod, Int.add_mul]
 congr 1
 rw [Int.mul_assoc, Int.mul_assoc, Int.mul_assoc]
theorem pairL_bil {v u : List Int} (hv : v.length = sq.length) : pairL p sq v u % p = bil sq v u % p := by
 rw [pairL_sum hv, Int.emod_emod_of_dvd _ (Int.dvd_refl p)]
 unfold bil
 refine sumTo_mod p fun i _ => ?_
 rw [Int.mul_emod, Int.emod_emod_of_dvd _ (Int.dvd_refl p), ← Int.mul_emod]
/-- The reflection of w in v. -/
def reflF (p : Int) (sq v w : List Int) : List Int := plusL p w v (-(2 * bil sq v w * invF p (bil sq v v % p)))
theorem reflF_len {v w : List Int} : (reflF p sq v w).length = w.length := plusL_len _ _ _ _
theorem reflF_nums (hp : 0 < p) (v w : List Int) : NumsL p (reflF p sq v w) := plusL_nums hp _ _ _
/-- Products of vectors. -/
def Cl.prod (hp : 0 < p) (vs : List (List Int)) : Cl p sq := vs.foldl (fun x v => x * Cl.vec hp v) (Cl.one hp)
theorem Cl.prod_from (hp : 0 < p) (vs : List (List Int)) : ∀ y : Cl p sq, vs.foldl (fun x v => x * Cl.vec hp v) y = y * Cl.prod hp vs := by
 induction vs with
 | nil => intro y; exact (Cl.mul_one hp y).symm
 | cons v vs ih =>
  intro y
  unfold Cl.prod
  rw [List.foldl_cons, ih, List.foldl_cons, ih, Cl.one_mul, Cl.mul_assoc]
theorem Cl.prod_cons (hp : 0 < p) (v : List Int) (vs : List (List Int)) : (Cl.prod hp (v :: vs) : Cl p sq) = Cl.vec hp v * Cl.prod hp vs := by
 have := Cl.prod_from hp vs (Cl.vec hp v : Cl p sq)
 rw [← this]
 unfold Cl.prod
 rw [List.foldl_cons, Cl.one_mul]
/-- The product of the norms. -/
def nrmP (sq : List Int) : List (List Int) → Int
 | [] => 1
 | v :: vs => bil sq v v * nrmP sq vs
theorem Cl.prod_norm (hp : 0 < p) (hP : isP p = true) (h6 : sq.length ≤ 6) (vs : List (List Int)) : (Cl.prod hp vs : Cl p sq) * (Cl.prod hp vs).rev = nrmP sq vs * Cl.one hp := by
 induction vs with
 | nil => show Cl.one hp * (Cl.one hp).rev = (1 : Int) * Cl.one hp; rw [Cl.one_rev, Cl.mul_one, Cl.one_sm]
 | cons v vs ih =>
  rw [Cl.prod_cons, Cl.rev_mul h6, Cl.vec_rev, Cl.mul_assoc, ← Cl.mul_assoc (Cl.prod hp vs), ih, Cl.sm_mul, Cl.one_mul, Cl.mul_sm, Cl.vec_sq hp hP, Cl.sm_sm]
  show _ = (bil sq v v * nrmP sq vs) * Cl.one hp
  rw [Int.mul_comm]
theorem Cl.prod_invo (hp : 0 < p) (vs : List (List Int)) : (Cl.prod hp vs : Cl p sq).invo = sg vs.length * Cl.prod hp vs := by
 induction vs with
 | nil => show (Cl.one hp).invo = (1 : Int) * Cl.one hp; rw [Cl.one_invo, Cl.one_sm]
 | cons v vs ih =>
  rw [Cl.prod_cons, Cl.invo_mul, ih, Cl.vec_invo, Cl.sm_mul, Cl.mul_sm, Cl.sm_sm, List.length_cons, sg_add]
  congr 1
  show -1 * sg vs.length = sg vs.length * -1
  exact Int.mul_comm _ _
/-- What the product does to a vector: the reflections in its vectors, the last one first. -/
def refls (p : Int) (sq : List Int) (vs : List (List Int)) (w : List Int) : List Int := vs.foldr (fun v w => reflF p sq v w) w
theorem refls_len (vs : List (List Int)) (w : List Int) : (refls p sq vs w).length = w.length := by
 induction vs with
 | nil => rfl
 | cons v vs ih => show (reflF p sq v (refls p sq vs w)).length = _; rw [reflF_len, ih]
theorem refls_nums (hp : 0 < p) (vs : List (List Int)) {w : List Int} (hw : NumsL p w) : NumsL p (refls p sq vs w) := by
 cases vs with
 | nil => exact hw
 | cons v vs => exact reflF_nums hp _ _
theorem Cl.one_refl (hp : 0 < p) (hP : isP p = true) {v w : List Int} (hw : w.length = sq.length) (hv : bil sq v v % p ≠ 0) : (Cl.vec hp v : Cl p sq) * Cl.vec hp w * Cl.vec hp v = (-(bil sq v v)) * Cl.vec hp (reflF p sq v w) := by
 rw [Cl.vec_both hp hP]
 unfold reflF
 rw [Cl.vec_plus hp hw, Cl.sm_add, Cl.sm_sm, Cl.add_comm]
 congr 1
 refine Cl.sm_cg ?_ _
 have h1 := inv_mod hP hv
 have h3 := (isP_ge hP).1
 have h2 : (1 : Int) % p = bil sq v v * invF p (bil sq v v % p) % p := by rw [h1, Int.emod_eq_of_lt (by omega) (by omega)]
 have h4 := cg_mul h2 (show 2 * bil sq v w % p = 2 * bil sq v w % p from rfl)
 rw [Int.one_mul] at h4
 rw [h4, Int.neg_mul_neg]
 congr 1
 rw [Int.mul_assoc, Int.mul_comm (invF p _)]
theorem Cl.prod_acts (hp : 0 < p) (hP : isP p = true) (h6 : sq.length ≤ 6) (vs : List (List Int)) (hvs : ∀ v ∈ vs, bil sq v v % p ≠ 0) {w : List Int} (hw : w.length = sq.length) :
    (Cl.prod hp vs : Cl p sq).invo * Cl.vec hp w * (Cl.prod hp vs).rev = nrmP sq vs * Cl.vec hp (refls p sq vs w) := by
 induction vs with
 | nil =>
  show (Cl.one hp).invo * Cl.vec hp w * (Cl.one hp).rev = (1 : Int) * Cl.vec hp w
  rw [Cl.one_invo, Cl.one_rev, Cl.mul_one, Cl.one_mul, Cl.one_sm]
 | cons v vs ih =>
  have ih := ih fun u hu => hvs u (List.mem_cons_of_mem _ hu)
  rw [Cl.prod_cons, Cl.invo_mul, Cl.rev_mul h6, Cl.vec_rev, Cl.vec_invo]
  have e : (-1 : Int) * Cl.vec hp v * (Cl.prod hp vs).invo * Cl.vec hp w * ((Cl.prod hp vs).rev * Cl.vec hp v) = (-1 : Int) * (Cl.vec hp v * ((Cl.prod hp vs).invo * Cl.vec hp w * (Cl.prod hp vs).rev) * Cl.vec hp v : Cl p sq) := by
   simp only [Cl.sm_mul, Cl.mul_assoc]
  rw [e, ih, Cl.mul_sm, Cl.sm_mul, Cl.one_refl hp hP (by rw [refls_len]; exact hw) (hvs v (List.mem_cons_self ..)), Cl.sm_sm, Cl.sm_sm]
  show _ = (bil sq v v * nrmP sq vs) * Cl.vec hp (reflF p sq v (refls p sq vs w))
  congr 1
  rw [Int.neg_mul, Int.one_mul, Int.mul_neg, Int.neg_mul, Int.neg_neg, Int.mul_comm]
end
section
variable {p : Int} {sq : List Int}
theorem neg_ne {p : Int} (hP : isP p = true) {a : Int} (ha : 0 ≤ a ∧ a < p) (h0 : a ≠ 0) : a % p ≠ (-a) % p := by
 obtain ⟨a1, a2⟩ := ha
 simp only [isP, Bool.or_eq_true, beq_iff_eq] at hP
 rcases hP with (((rfl | rfl) | rfl) | rfl) | rfl <;> omega
theorem mul_ne {p : Int} (hP : isP p = true) {a b : Int} (ha : a % p ≠ 0) (hb : b % p ≠ 0) : a * b % p ≠ 0 := fun h => by
 have h3 := (isP_ge hP).1
 rw [Int.mul_emod] at h
 rcases mul_zero_mod hP (emod_small a p (by omega)) (emod_small b p (by omega)) h with h | h
 · exact ha h
 · exact hb h
theorem nrmP_ne {p : Int} (hP : isP p = true) (vs : List (List Int)) (hvs : ∀ v ∈ vs, bil sq v v % p ≠ 0) : nrmP sq vs % p ≠ 0 := by
 induction vs with
 | nil =>
  show (1 : Int) % p ≠ 0
  have h3 := (isP_ge hP).1
  rw [Int.emod_eq_of_lt (by omega) (by omega)]; decide
 | cons v vs ih => exact mul_ne hP (hvs v (List.mem_cons_self ..)) (ih fun u hu => hvs u (List.mem_cons_of_mem _ hu))
theorem only_iff {ys : List Int} (hl : ys.length ≤ 64) (k : Nat) : onlyL ys k = true ↔ ∀ i, i < ys.length → pc i ≠ k → ys.getD i 0 = 0 := by
 unfold onlyL
 rw [Bool.not_eq_true', List.any_eq_false]
 constructor
 · intro h i hi hne
   by_cases h0 : ys.getD i 0 = 0
   · exact h0
   · have := h _ ((gradesL_mem ys hl _).2 ⟨i, hi, h0, rfl⟩)
     simp at this
     omega
 · intro h g hg
   obtain ⟨i, hi, h0, rfl⟩ := (gradesL_mem ys hl _).1 hg
   by_cases hp : pc i = k
   · simp [hp]
   · exact absurd (h i hi hp) h0
theorem Cl.only_co (h6 : sq.length ≤ 6) (x : Cl p sq) (k : Nat) : onlyL x.l k = true ↔ ∀ m, m < pw sq.length → pc m ≠ k → x.co m = 0 := by
 rw [only_iff (by rw [x.len]; exact pw_le (k := 6) h6), x.len]; rfl
theorem pc_zero_iff {m : Nat} (h : pc m = 0) : m = 0 := by
 have : ∀ k a, a < 2 ^ k → pc a = 0 → a = 0 := by
  intro k
  induction k with
  | zero => intro a ha _; omega
  | succ k ih =>
   intro a ha hz
   rw [pc_rec] at hz
   have := ih (a / 2) (by rw [Nat.pow_succ] at ha; omega) (by omega)
   omega
 exact this m m Nat.lt_two_pow_self h
/-- Only grade 0: a number. -/
theorem Cl.only_zero (h6 : sq.length ≤ 6) (hp : 0 < p) (x : Cl p sq) : onlyL x.l 0 = true ↔ x = x.co 0 * Cl.one hp := by
 have h := x.only_co h6 0
 refine h.trans ⟨fun h0 => Cl.same fun m hm => ?_, fun e m hm hne => ?_⟩
 · rw [Cl.sm_co _ _ hm, Int.mul_emod, Cl.one_co hp hm, ← Int.mul_emod]
   by_cases hz : m = 0
   · rw [if_pos hz, hz, Int.mul_one]
   · rw [if_neg hz, h0 m hm fun e => hz (pc_zero_iff e), Int.mul_zero]
 · have e1 : x.co m = (x.co 0 * Cl.one hp : Cl p sq).co m := congrArg (fun y : Cl p sq => y.co m) e
   rw [e1, ← Cl.co_mod, Cl.sm_co _ _ hm, Int.mul_emod, Cl.one_co hp hm, ← Int.mul_emod, if_neg fun hz => hne (by rw [hz, pc_zero]), Int.mul_zero, Int.zero_emod]
theorem Cl.vec_only (h6 : sq.length ≤ 6) (hp : 0 < p) (v : List Int) : onlyL (Cl.vec hp v : Cl p sq).l 1 = true := by
 refine (Cl.only_co h6 _ 1).2 fun m hm hne => ?_
 rw [← Cl.co_mod, Cl.vec_co hp _ hm, sumTo_zero fun i _ => if_neg fun e => hne (by rw [e, pc_pow]), Int.zero_emod]
theorem Cl.invo_par (hP : isP p = true) (h6 : sq.length ≤ 6) (x : Cl p sq) (c : Nat) (h : x.invo = sg c * x) : ∀ m, m < pw sq.length → x.co m ≠ 0 → pc m % 2 = c % 2 := fun m hm hne => by
 have h3 := (isP_ge hP).1
 have e1 : x.invo.co m % p = (sg c * x : Cl p sq).co m % p := congrArg (fun y : Cl p sq => y.co m % p) h
 rw [Cl.invo_co _ hm, Cl.sm_co _ _ hm, sgI_sg] at e1
 have hx := x.co_small m
 rcases Nat.mod_two_eq_zero_or_one (pc m) with ha | ha <;> rcases Nat.mod_two_eq_zero_or_one c with hb | hb
 · omega
 · exfalso
   have s1 : sg (pc m) = 1 := by unfold sg; rw [ha]; rfl
   have s2 : sg c = -1 := by unfold sg; rw [hb]; rfl
   rw [s1, s2, Int.one_mul, Int.neg_mul, Int.one_mul] at e1
   exact neg_ne hP hx hne e1
 · exfalso
   have s1 : sg (pc m) = -1 := by unfold sg; rw [ha]; rfl
   have s2 : sg c = 1 := by unfold sg; rw [hb]; rfl
   rw [s1, s2, Int.one_mul, Int.neg_mul, Int.one_mul] at e1
   exact neg_ne hP hx hne e1.symm
 · omega
theorem mixB_none {gs : List Int} {c : Int} (h : ∀ g ∈ gs, g % (2 : Int) = c) : mixB gs = false := by
 unfold mixB
 rw [List.any_eq_false]
 intro g hg
 have h0 : gs.getD 0 0 ∈ gs := getD_mem 0 (List.length_pos_of_mem hg)
 rw [h g hg, h _ h0]
 simp
theorem Cl.mix_none (hP : isP p = true) (h6 : sq.length ≤ 6) (x : Cl p sq) (c : Nat) (h : x.invo = sg c * x) : mixB (gradesL x.l) = false := by
 have hl : x.l.length ≤ 64 := by rw [x.len]; exact pw_le (k := 6) h6
 refine mixB_none (c := (c : Int) % 2) fun g hg => ?_
 obtain ⟨i, hi, h0, rfl⟩ := (gradesL_mem x.l hl g).1 hg
 have := x.invo_par hP h6 c h i (by rw [← x.len]; exact hi) h0
 omega
theorem Cl.nrm_co (x : Cl p sq) : nrmL p sq x.l = (x * x.rev).co 0 := by
 unfold nrmL Cl.co
 rw [Cl.mul_l, Cl.rev_l]
/-- What is told to be a versor. -/
theorem Cl.vers_iff (hP : isP p = true) (hp : 0 < p) (h6 : sq.length ≤ 6) (x : Cl p sq) : versB p sq sq.length x.l = true ↔
    nrmL p sq x.l ≠ 0 ∧ x * x.rev = nrmL p sq x.l * Cl.one hp ∧ mixB (gradesL x.l) = false ∧ ∀ i, i < sq.length → onlyL (x.invo * Cl.vec hp (unitRow sq.length i) * x.rev : Cl p sq).l 1 = true := by
 unfold versB
 have h3 := (isP_ge hP).1
 rw [Bool.and_eq_true, Bool.and_eq_true, Bool.and_eq_true, Bool.not_eq_true', Bool.not_eq_true', List.all_eq_true, beq_eq_false_iff_ne]
 have e1 : mulL p sq x.l (revL p x.l) = (x * x.rev).l := by rw [Cl.mul_l, Cl.rev_l]
 rw [e1, (x * x.rev).only_zero h6 hp, ← Cl.nrm_co, and_assoc, and_assoc]
 refine and_congr_right fun _ => and_congr_right fun _ => and_congr_right fun _ => ?_
 constructor
 · intro h i hi
   have := h i (by simpa using hi)
   unfold imgL at this
   rw [Cl.mul_l, Cl.mul_l, Cl.invo_l, Cl.rev_l, Cl.vec_l hp (unitRow_nums (by omega) _ _)]
   exact this
 · intro h i hi
   have := h i (by simpa using hi)
   rw [Cl.mul_l, Cl.mul_l, Cl.invo_l, Cl.rev_l, Cl.vec_l hp (unitRow_nums (by omega) _ _)] at this
   exact this
/-- A vector is a sum of multiples of unit vectors. -/
def Cl.sum (hp : 0 < p) : Nat → (Nat → Cl p sq) → Cl p sq
 | 0, _ => Cl.zero hp
 | n + 1, f => Cl.sum hp n f + f n
/-- Products of vectors are versors. -/
theorem Cl.prod_vers (hP : isP p = true) (hp : 0 < p) (h6 : sq.length ≤ 6) (vs : List (List Int)) (hvs : ∀ v ∈ vs, bil sq v v % p ≠ 0) : versB p sq sq.length (Cl.prod hp vs : Cl p sq).l = true ∧ nrmL p sq (Cl.prod hp vs : Cl p sq).l = nrmP sq vs % p := by
 have hn : nrmL p sq (Cl.prod hp vs : Cl p sq).l = nrmP sq vs % p := by
  rw [Cl.nrm_co, Cl.prod_norm hp hP h6, ← Cl.co_mod, Cl.sm_co _ _ (pw_pos _), Int.mul_emod, Cl.one_co hp (pw_pos _), ← Int.mul_emod, if_pos rfl, Int.mul_one]
 refine ⟨(Cl.vers_iff hP hp h6 _).2 ⟨?_, ?_, Cl.mix_none hP h6 _ _ (Cl.prod_invo hp vs), fun i _ => ?_⟩, hn⟩
 · rw [hn]; exact nrmP_ne hP vs hvs
 · rw [hn, Cl.prod_norm hp hP h6]
   exact Cl.sm_cg (Int.emod_emod_of_dvd _ (Int.dvd_refl p)).symm _
 · rw [Cl.prod_acts hp hP h6 vs hvs (unitRow_len _ _)]
   refine (Cl.only_co h6 _ 1).2 fun m hm hne => ?_
   rw [← Cl.co_mod, Cl.sm_co _ _ hm, (Cl.only_co h6 _ 1).1 (Cl.vec_only h6 hp _) m hm hne, Int.mul_zero, Int.zero_emod]
end
end Go.Proofs.YtmkjdpnoloofjaaGreat
namespace Go.Proofs.YtmkjdpnoloofjaaGreat
open Go.RowKit
/-- The geometric product of vectors. -/
def versL (P : Int) (sq : List Int) (n : Nat) (L : List (List Int)) : List Int := L.foldl (fun o v => mulL P sq o (vecTo n v n)) (bladeL n 0)
theorem versL_snoc (P : Int) (sq : List Int) (n : Nat) (L : List (List Int)) (v : List Int) : versL P sq n (L ++ [v]) = mulL P sq (versL P sq n L) (vecTo n v n) := by unfold versL; rw [List.foldl_append]; rfl
theorem mulL_len' (P : Int) (sq xs ys : List Int) : (mulL P sq xs ys).length = xs.length := by unfold mulL; rw [prodL_len]
theorem versL_len (P : Int) (sq : List Int) (n : Nat) : ∀ (k : Nat) (L : List (List Int)), L.length = k → (versL P sq n L).length = pw n := by
 intro k
 induction k with
 | zero => intro L h; rw [List.eq_nil_of_length_eq_zero h]; exact bladeL_len n 0
 | succ k ih =>
  intro L h
  have hne : L ≠ [] := fun e => by rw [e] at h; simp at h
  rw [← List.dropLast_concat_getLast hne, versL_snoc, mulL_len']
  exact ih _ (by rw [List.length_dropLast, h]; rfl)
theorem versL_nums {P : Int} (hp : 2 ≤ P) (sq : List Int) (n : Nat) (L : List (List Int)) : NumsL P (versL P sq n L) := by
 by_cases h : L = []
 · rw [h]; exact bladeL_nums hp n 0
 · rw [← List.dropLast_concat_getLast h, versL_snoc]
   exact mulL_nums (by omega) _ _ _
set_option maxHeartbeats 3200000 in
set_option maxRecDepth 8000 in
theorem versor_any (P : Int) (A : Option Addr) (n c : Nat) (sq : List Int) (B : Option Addr) (m d : Nat) (L : List (List Int)) (w : World) (HP : isP P = true) (hn : n ≤ 6) (h0 : 0 < n) (hm : m ≤ 65536) (ha : Rd w A n (ints sq)) (hs : NumsL P sq) (hb : RdII w B m L) (hL : Tab P n L) :
    Calls Tryz.prog 94 #[.agg #[.int .i64 P, .slice A n c], .slice B m d] w fun e w' => ∃ A' c', e = .returned (.slice A' (pw n) c') ∧ MkI w w' A' (pw n) c' (versL P sq n L) := by
 obtain ⟨hp3, hp2⟩ := isP_ge HP
 have hp : 2 ≤ P := by omega
 have HML := Lib.hid hb.len
 have HTL := Lib.hid hL
 have hB0 : Below w.heap.size w (w.alloc (.cells #[.int .i64 P, .slice A n c] 26)) := zG.alloc (Nat.le_refl _) _
 have k0 : Blk (w.alloc (.cells #[.int .i64 P, .slice A n c] 26)) w.heap.size 26 #[.int .i64 P, .slice A n c] := Blk.new _ _ _
 obtain ⟨q0, q1⟩ := k0.two
 clear hL
 go_enter Tryz.func94, Tryz.ntmps94
 go_wp2_with fail
 refine (one_any P A n c _ (by omega)).mono ?_
 rintro e w1 ⟨G, c1, rfl, hM1⟩
 have k1 := k0.below hM1.b k0.lt
 have hM := hM1.after hB0
 clear hM1 hB0 k0 q0 q1
 go_wp2
 go_loopw [5, 7, 12] (fun out _ i wr => ∃ (k : Nat) (G : Option Addr) (cg : Nat), k ≤ m ∧ i = .int .i64 k ∧ out = .slice G (pw n) cg ∧ MkI w wr G (pw n) cg (versL P sq n (L.take k)) ∧ Blk wr w.heap.size 26 #[.int .i64 P, .slice A n c]) (fun _ _ i _ => m - (intOf i).toNat)
 case atStart => exact ⟨0, _, _, by omega, rfl, rfl, by simpa [versL] using hM, k1⟩
 case round =>
  obtain ⟨k, G, cg, hk, rfl, rfl, hM2, k2⟩ := hrel
  clear hM k1
  obtain ⟨q0, q1⟩ := k2.two
  by_cases hlt : k < m
  · obtain ⟨g, o, rfl, hxk, A1, c1', hcx, hr, hcc⟩ := (hb.below hM2.b).at_ hlt
    have HRN := Lib.hid (HTL.out L[k] (List.getElem_mem hxk))
    have hl1 := HRN.out.1
    rw [hl1] at hcx hr
    have HR := Lib.hid hr
    have HT : Hid (versL P sq n (L.take (k + 1)) = mulL P sq (versL P sq n (L.take k)) (vecTo n L[k] n)) := Lib.hid (by rw [List.take_succ_eq_append_getElem hxk, versL_snoc])
    have HN := Lib.hid (versL_nums hp sq n (L.take k))
    have HLN := Lib.hid (versL_len P sq n _ (L.take k) rfl)
    have HM2 := Lib.hid hM2
    have HA := Lib.hid (ha.below hM2.b)
    have HSQ := Lib.hid hs
    obtain ⟨v, hv⟩ : ∃ v, v = L[k] := ⟨_, rfl⟩
    rw [← hv] at HRN HR HT
    obtain ⟨O, hO⟩ : ∃ O, O = versL P sq n (L.take k) := ⟨_, rfl⟩
    rw [← hO] at HT HN HM2 HLN
    have HTT := Lib.hid (timesL_two P sq n O (vecTo n v n) HLN.out HN.out)
    clear hl1 hr hcc hv hO hM2 hxk
    go_wp2
    refine wp_obs 7 [[],[],[],[],[2,3],[1,2,3,4],[0,1,2,3,4,5],[0,1,2,3,4,5,6]] [VIs (.agg #[.int .i64 P, .slice A n c]), VIs (.slice G (pw n) cg), VIs (.agg #[.int .i64 P, .slice A n c]), VIs (.slice A1 n c1'), VSl wr (pw n) (vecTo n v n), VRow 2 [O, vecTo n v n], VSl wr (pw n) (mulL P sq O (vecTo n v n))] (fun w' => Blk w' w.heap.size 26 #[.int .i64 P, .slice A n c] ∧ Below wr.heap.size wr w') (by kernel_rfl) (by kernel_rfl) (fun _ _ h hb => ⟨h.1.below hb h.1.lt, h.2.trans (hb.mono h.2.size)⟩) (⟨k2.drew, zG.drew⟩) (fun x => ?_)
    refine zS (fun w' hS hV K hK => ?_) ?_
    · obtain ⟨q0, q1⟩ := hS.1.two; go_simp; exact zO hK
    refine zS (fun w' hS hV K hK => ?_) ?_
    · obtain ⟨q0, q1⟩ := hS.1.two; go_simp; exact zO hK
    refine zS (fun w' hS hV K hK => ?_) ?_
    · obtain ⟨q0, q1⟩ := hS.1.two; go_simp; exact zO hK
    refine zS (fun w' hS hV K hK => ?_) ?_
    · obtain ⟨q0, q1⟩ := hS.1.two; go_simp; exact zO hK
    refine zS (fun w' hS hV K hK => ?_) ?_
    · have e2 := zQ hV 2; have e3 := zQ hV 3; obtain ⟨q0, q1⟩ := hS.1.two; go_simp; refine (vector_any P A n c _ _ v _ (by omega) (HR.out.below hS.2)).mono ?_; rintro e v1 ⟨A2, c2, rfl, hM⟩; exact hK.out _ _ _ rfl rfl ⟨_, _, rfl, hM.after hS.2⟩ hM.b
    refine zS (fun w' hS hV K hK => ?_) ?_
    · have e1 := zQ hV 1; obtain ⟨A4, c4, e4, h4⟩ := hV 4 (by decide); obtain ⟨q0, q1⟩ := hS.1.two; go_simp; exact hK.out _ _ _ rfl rfl ⟨_, _, rfl, rdII_two (Blk.new _ _ _) (Rd.below (HM2.out.below hS.2).rd (zG.alloc (Nat.le_refl _) _)) (Rd.below h4.rd (zG.alloc (Nat.le_refl _) _)) HM2.out.2.cap h4.2.cap⟩ (zG.alloc (Nat.le_refl _) _)
    refine zS (fun w' hS hV K hK => ?_) ?_
    · have e0 := zQ hV 0; obtain ⟨A4, c4, e4, h4⟩ := hV 4 (by decide); obtain ⟨A5, c5, e5, h5⟩ := hV 5 (by decide); obtain ⟨q0, q1⟩ := hS.1.two; go_simp; refine (times_any P A n c sq _ 2 _ [O, vecTo n v n] _ hp hp2 hn (by omega) (HA.out.below hS.2) HSQ.out h5 (all_two ⟨HN.out, HLN.out⟩ ⟨vecTo_nums (by omega) n _ HRN.out.2 n, vecTo_len _ _ _⟩)).mono ?_; rw [HTT.out]; rintro e v1 ⟨A2, c2, rfl, hM⟩; exact hK.out _ _ _ rfl rfl ⟨_, _, rfl, hM.after hS.2⟩ hM.b
    refine fun w' hS hV => ?_
    have e0 := zT hV 0
    have e1 := zT hV 1
    have e2 := zT hV 2
    have e3 := zT hV 3
    obtain ⟨A4, c4, e4, h4⟩ := hV 4 (by decide)
    obtain ⟨A5, c5, e5, h5⟩ := hV 5 (by decide)
    obtain ⟨A6, c6, e6, h6⟩ := hV 6 (by decide)
    simp only [e0, e1, e2, e3, e4, e5, e6]
    clear e0 e1 e2 e3 e4 e5 e6
    refine any_one (j := 7) (by kernel_rfl) (Eq.trans (by simp only [zA, zB, zC]; exact rfl) rfl) (fun K hK => ?_)
    go_simp
    refine hK.out _ _ (wpAny_done (by kernel_rfl) ?_ _)
    have k3 := hS.1
    have HMN := Lib.hid (h6.after HM2.out.b)
    clear hS h6 h4 h5 HTT
    go_wp2
    go_roundw
    case rel => exact ⟨k + 1, A6, c6, by omega, by go_num, rfl, by rw [HT.out]; exact HMN.out, k3⟩
    case measure => simp [intOf]; omega
  · obtain rfl : k = m := by omega
    rw [List.take_of_length_le (by rw [HML.out]; exact Nat.le_refl _)] at hM2
    go_wp2
    go_ret
    exact ⟨_, _, rfl, hM2⟩
set_option maxHeartbeats 3200000 in
set_option maxRecDepth 8000 in
theorem l07Versor_any (P : Int) (A : Option Addr) (n c : Nat) (sq : List Int) (B : Option Addr) (m d : Nat) (L : List (List Int)) (w : World) (HP : isP P = true) (hn : n ≤ 6) (h0 : 0 < n) (hm : m ≤ 65536) (ha : Rd w A n (ints sq)) (hs : NumsL P sq) (hb : RdII w B m L) (hL : Tab P n L) :
    Calls Tryz.prog 256 #[.agg #[.int .i64 P, .slice A n c], .slice B m d] w fun e w' => ∃ A' c', e = .returned (.slice A' (pw n) c') ∧ MkI w w' A' (pw n) c' (versL P sq n L) := by
 obtain ⟨hp3, hp2⟩ := isP_ge HP
 have hp : 2 ≤ P := by omega
 have HML := Lib.hid hb.len
 have HTL := Lib.hid hL
 have hB0 : Below w.heap.size w (w.alloc (.cells #[.int .i64 P, .slice A n c] 26)) := zG.alloc (Nat.le_refl _) _
 have k0 : Blk (w.alloc (.cells #[.int .i64 P, .slice A n c] 26)) w.heap.size 26 #[.int .i64 P, .slice A n c] := Blk.new _ _ _
 obtain ⟨q0, q1⟩ := k0.two
 clear hL
 go_enter Tryz.func256, Tryz.ntmps256
 go_wp2_with fail
 refine (l04One_any P A n c _ (by omega)).mono ?_
 rintro e w1 ⟨G, c1, rfl, hM1⟩
 have k1 := k0.below hM1.b k0.lt
 have hM := hM1.after hB0
 clear hM1 hB0 k0 q0 q1
 go_wp2
 go_loopw [5, 6] (fun out i wr => ∃ (k : Nat) (G : Option Addr) (cg : Nat), k ≤ m ∧ i = .int .i64 k ∧ out = .slice G (pw n) cg ∧ MkI w wr G (pw n) cg (versL P sq n (L.take k)) ∧ Blk wr w.heap.size 26 #[.int .i64 P, .slice A n c]) (fun _ i _ => m - (intOf i).toNat)
 case atStart => exact ⟨0, _, _, by omega, rfl, rfl, by simpa [versL] using hM, k1⟩
 case round =>
  obtain ⟨k, G, cg, hk, rfl, rfl, hM2, k2⟩ := hrel
  clear hM k1
  obtain ⟨q0, q1⟩ := k2.two
  by_cases hlt : k < m
  · obtain ⟨g, o, rfl, hxk, A1, c1', hcx, hr, hcc⟩ := (hb.below hM2.b).at_ hlt
    have HRN := Lib.hid (HTL.out L[k] (List.getElem_mem hxk))
    have hl1 := HRN.out.1
    rw [hl1] at hcx hr
    have HR := Lib.hid hr
    have HT : Hid (versL P sq n (L.take (k + 1)) = mulL P sq (versL P sq n (L.take k)) (vecTo n L[k] n)) := Lib.hid (by rw [List.take_succ_eq_append_getElem hxk, versL_snoc])
    have HN := Lib.hid (versL_nums hp sq n (L.take k))
    have HLN := Lib.hid (versL_len P sq n _ (L.take k) rfl)
    have HM2 := Lib.hid hM2
    have HA := Lib.hid (ha.below hM2.b)
    have HSQ := Lib.hid hs
    obtain ⟨v, hv⟩ : ∃ v, v = L[k] := ⟨_, rfl⟩
    rw [← hv] at HRN HR HT
    obtain ⟨O, hO⟩ : ∃ O, O = versL P sq n (L.take k) := ⟨_, rfl⟩
    rw [← hO] at HT HN HM2 HLN
    have HTT := Lib.hid (timesL_two P sq n O (vecTo n v n) HLN.out HN.out)
    clear hl1 hr hcc hv hO hM2 hxk
    go_wp2
    refine wp_obs 9 [[],[],[],[],[],[3,4],[3,4,5],[2,3,4,5,6],[0,1,2,3,4,5,6,7],[0,1,2,3,4,5,6,7,8]] [VIs (.agg #[.int .i64 P, .slice A n c]), VIs (.slice G (pw n) cg), VIs (.agg #[.int .i64 P, .slice A n c]), VIs (.slice (some ⟨g, o, none⟩) m d), VIs (.int .i64 (k)), VIs (.pointer (some ⟨g, o + k, none⟩)), VIs (.slice A1 n c1'), VSl wr (pw n) (vecTo n v n), VSl wr (pw n) (mulL P sq O (vecTo n v n))] (fun w' => w'.cell? ⟨g, o + k, none⟩ = some (.slice A1 n c1') ∧ Blk w' w.heap.size 26 #[.int .i64 P, .slice A n c] ∧ Below wr.heap.size wr w') (by kernel_rfl) (by kernel_rfl) (fun _ _ h hb => ⟨(hb.cell (World.block_lt_of_cell? _ _ h.1)).trans h.1, h.2.1.below hb h.2.1.lt, h.2.2.trans (hb.mono h.2.2.size)⟩) (⟨hcx, k2.drew, zG.drew⟩) (fun x => ?_)
    refine zS (fun w' hS hV K hK => ?_) ?_
    · have q2 := hS.1; obtain ⟨q0, q1⟩ := hS.2.1.two; go_simp; exact zO hK
    refine zS (fun w' hS hV K hK => ?_) ?_
    · have q2 := hS.1; obtain ⟨q0, q1⟩ := hS.2.1.two; go_simp; exact zO hK
    refine zS (fun w' hS hV K hK => ?_) ?_
    · have q2 := hS.1; obtain ⟨q0, q1⟩ := hS.2.1.two; go_simp; exact zO hK
    refine zS (fun w' hS hV K hK => ?_) ?_
    · have q2 := hS.1; obtain ⟨q0, q1⟩ := hS.2.1.two; go_simp; exact zO hK
    refine zS (fun w' hS hV K hK => ?_) ?_
    · have q2 := hS.1; obtain ⟨q0, q1⟩ := hS.2.1.two; go_simp; exact zO hK
    refine zS (fun w' hS hV K hK => ?_) ?_
    · have e3 := zQ hV 3; have e4 := zQ hV 4; have q2 := hS.1; obtain ⟨q0, q1⟩ := hS.2.1.two; go_simp; exact zO hK
    refine zS (fun w' hS hV K hK => ?_) ?_
    · have e5 := zQ hV 5; have q2 := hS.1; obtain ⟨q0, q1⟩ := hS.2.1.two; go_simp; exact zO hK
    refine zS (fun w' hS hV K hK => ?_) ?_
    · have e2 := zQ hV 2; have e6 := zQ hV 6; have q2 := hS.1; obtain ⟨q0, q1⟩ := hS.2.1.two; go_simp; refine (l04Vector_any P A n c _ _ v _ (by omega) (HR.out.below hS.2.2)).mono ?_; rintro e v1 ⟨A2, c2, rfl, hM⟩; exact hK.out _ _ _ rfl rfl ⟨_, _, rfl, hM.after hS.2.2⟩ hM.b
    refine zS (fun w' hS hV K hK => ?_) ?_
    · have e0 := zQ hV 0; have e1 := zQ hV 1; obtain ⟨A7, c7, e7, h7⟩ := hV 7 (by decide); have q2 := hS.1; obtain ⟨q0, q1⟩ := hS.2.1.two; go_simp; refine (l04Times_any P A n c sq _ _ O _ _ (vecTo n v n) _ hp hp2 hn (HA.out.below hS.2.2) HSQ.out (HM2.out.below hS.2.2).rd HN.out h7.rd (vecTo_nums (by omega) n _ HRN.out.2 n)).mono ?_; rw [show prodL P sq (fun _ _ => true) O (vecTo n v n) = mulL P sq O (vecTo n v n) from rfl]; rintro e v1 ⟨A2, c2, rfl, hM⟩; exact hK.out _ _ _ rfl rfl ⟨_, _, rfl, hM.after hS.2.2⟩ hM.b
    refine fun w' hS hV => ?_
    have e0 := zT hV 0
    have e1 := zT hV 1
    have e2 := zT hV 2
    have e3 := zT hV 3
    have e4 := zT hV 4
    have e5 := zT hV 5
    have e6 := zT hV 6
    obtain ⟨A7, c7, e7, h7⟩ := hV 7 (by decide)
    obtain ⟨A8, c8, e8, h8⟩ := hV 8 (by decide)
    simp only [e0, e1, e2, e3, e4, e5, e6, e7, e8]
    clear e0 e1 e2 e3 e4 e5 e6 e7 e8
    refine any_one (j := 9) (by kernel_rfl) (Eq.trans (by simp only [zA, zB, zC]; exact rfl) rfl) (fun K hK => ?_)
    go_simp
    refine hK.out _ _ (wpAny_done (by kernel_rfl) ?_ _)
    have k3 := hS.2.1
    have HMN := Lib.hid (h8.after HM2.out.b)
    clear hS h8 h7 HTT
    go_wp2
    go_roundw
    case rel => exact ⟨k + 1, A8, c8, by omega, by go_num, rfl, by rw [HT.out]; exact HMN.out, k3⟩
    case measure => simp [intOf]; omega
  · obtain rfl : k = m := by omega
    rw [List.take_of_length_le (by rw [HML.out]; exact Nat.le_refl _)] at hM2
    go_wp2
    go_ret
    exact ⟨_, _, rfl, hM2⟩
set_option maxHeartbeats 800000 in
set_option maxRecDepth 8000 in
theorem norm_any (P : Int) (A : Option Addr) (n c : Nat) (sq : List Int) (X : Option Addr) (cx : Nat) (v : List Int) (w : World) (hp : 2 ≤ P) (hp2 : P ≤ 13) (hn : n ≤ 6) (ha : Rd w A n (ints sq)) (hs : NumsL P sq) (hx : Rd w X n (ints v)) (hv : NumsL P v) :
    Calls Tryz.prog 114 #[.agg #[.int .i64 P, .slice A n c], .slice X n cx] w fun e w' => e = .returned (.int .i64 (pairL P sq v v)) ∧ Below w.heap.size w w' := by
 have hB0 : Below w.heap.size w (w.alloc (.cells #[.int .i64 P, .slice A n c] 26)) := zG.alloc (Nat.le_refl _) _
 have k0 : Blk (w.alloc (.cells #[.int .i64 P, .slice A n c] 26)) w.heap.size 26 #[.int .i64 P, .slice A n c] := Blk.new _ _ _
 have hpr := pair_any P A n c sq X cx v X cx v (w.alloc (.cells #[.int .i64 P, .slice A n c] 26)) hp hp2 hn (ha.below hB0) hs (hx.below hB0) hv (hx.below hB0) hv
 obtain ⟨q0, q1⟩ := k0.two
 go_enter Tryz.func114, Tryz.ntmps114
 go_wp2_with fail
 refine hpr.mono ?_
 rintro e w2 ⟨rfl, hb⟩
 go_wp2
 go_ret
 exact ⟨rfl, hB0.trans (hb.mono hB0.size)⟩
theorem pairL_small {P : Int} (hp : 2 ≤ P) (sq v u : List Int) : 0 ≤ pairL P sq v u ∧ pairL P sq v u < P := by
 unfold pairL dotL
 exact ⟨Int.emod_nonneg _ (by omega), Int.emod_lt_of_pos _ (by omega)⟩
/-- The reflection in u of v, as the program computes it. -/
def rflL (P : Int) (sq u v : List Int) : List Int := plusL P v u (-2 * pairL P sq u v * invF P (pairL P sq u u))
theorem rflL_len (P : Int) (sq u v : List Int) : (rflL P sq u v).length = v.length := plusL_len _ _ _ _
theorem rflL_nums {P : Int} (hp : 0 < P) (sq u v : List Int) : NumsL P (rflL P sq u v) := plusL_nums hp _ _ _
theorem mul_two_small {P a b : Int} (h2 : P ≤ 13) (ha : 0 ≤ a ∧ a < P) (hb : 0 ≤ b ∧ b < P) : 0 ≤ a * b ∧ a * b ≤ 144 :=
 ⟨Int.mul_nonneg ha.1 hb.1, Int.le_trans (Int.mul_le_mul_of_nonneg_right (show a ≤ 12 by omega) hb.1) (by omega)⟩
set_option maxHeartbeats 3200000 in
set_option maxRecDepth 8000 in
theorem reflected_any (P : Int) (A : Option Addr) (n c : Nat) (sq : List Int) (U : Option Addr) (cu : Nat) (u : List Int) (Y : Option Addr) (cy : Nat) (v : List Int) (w : World) (HP : isP P = true) (hn : n ≤ 6) (ha : Rd w A n (ints sq)) (hs : NumsL P sq) (hx : Rd w U n (ints u)) (hu : NumsL P u) (hy : Rd w Y n (ints v)) (hv : NumsL P v) (hne : ¬ pairL P sq u u = 0) :
    Calls Tryz.prog 255 #[.agg #[.int .i64 P, .slice A n c], .slice U n cu, .slice Y n cy] w fun e w' => ∃ A' c', e = .returned (.slice A' n c') ∧ MkI w w' A' n c' (rflL P sq u v) := by
 obtain ⟨hp3, hp2⟩ := isP_ge HP
 have hp : 2 ≤ P := by omega
 have ha1 := pairL_small hp sq u v
 have hb1 := pairL_small hp sq u u
 have hi1 := invF_small hp (pairL P sq u u)
 have HM1 := mul_two_small hp2 ha1 hi1
 have HSA := Lib.hid hs
 have HUA := Lib.hid hu
 have HVA := Lib.hid hv
 obtain ⟨R, hR⟩ : ∃ R, R = rflL P sq u v := ⟨_, rfl⟩
 have HR := Lib.hid hR
 have HPR := Lib.hid fun (w' : World) (h : Below w.heap.size w w') => pair_any P A n c sq U cu u Y cy v w' hp hp2 hn (ha.below h) hs (hx.below h) hu (hy.below h) hv
 have HNR := Lib.hid fun (w' : World) (h : Below w.heap.size w w') => norm_any P A n c sq U cu u w' hp hp2 hn (ha.below h) hs (hx.below h) hu
 have HIN := Lib.hid fun (w' : World) => inv_any P (pairL P sq u u) w' hp hp2 (by omega) (by omega)
 have HPL := Lib.hid fun (w' : World) (h : Below w.heap.size w w') => plus_any P Y n cy U n cu (-2 * pairL P sq u v * invF P (pairL P sq u u)) v u w' hp hp2 (by omega) (Nat.le_refl _) (hy.below h) hv (hx.below h) hu (by rw [Int.mul_assoc]; omega) (by rw [Int.mul_assoc]; omega)
 rw [show plusL P v u (-2 * pairL P sq u v * invF P (pairL P sq u u)) = R from hR.symm] at HPL
 obtain ⟨a, hA⟩ : ∃ a, a = pairL P sq u v := ⟨_, rfl⟩
 obtain ⟨b, hB⟩ : ∃ b, b = pairL P sq u u := ⟨_, rfl⟩
 rw [← hB] at HNR HIN HPL HM1 hi1 hb1 hne
 rw [← hA] at HPR HPL HM1 ha1
 obtain ⟨i, hi⟩ : ∃ i, i = invF P b := ⟨_, rfl⟩
 rw [← hi] at HIN HPL HM1 hi1
 have W1 := i64_fit (-2 * a) (by omega) (by omega)
 have W2 := i64_fit (-2 * a * i) (by rw [Int.mul_assoc]; omega) (by rw [Int.mul_assoc]; omega)
 have hB0 : Below w.heap.size w (w.alloc (.cells #[.int .i64 P, .slice A n c] 26)) := zG.alloc (Nat.le_refl _) _
 have k0 : Blk (w.alloc (.cells #[.int .i64 P, .slice A n c] 26)) w.heap.size 26 #[.int .i64 P, .slice A n c] := Blk.new _ _ _
 obtain ⟨q0, q1⟩ := k0.two
 clear hA hB hi hR hs hu hv ha hx hy HP
 go_enter Tryz.func255, Tryz.ntmps255
 go_wp2
 refine wp_obs 18 [[],[0],[],[],[],[],[],[4,5,6],[4,5,6,7],[],[9],[],[],[11,12],[9,10,11,12,13],[4,5,6,7,8,9,10,11,12,13,14],[0,1,2,3,4,5,6,7,8,9,10,11,12,13,14,15],[0,1,2,3,4,5,6,7,8,9,10,11,12,13,14,15,16]] [VIs (.agg #[.int .i64 P, .slice A n c]), VIs (.int .i64 (P)), VIs (.slice Y n cy), VIs (.slice U n cu), VIs (.agg #[.int .i64 P, .slice A n c]), VIs (.slice U n cu), VIs (.slice Y n cy), VIs (.int .i64 (a)), VIs (.int .i64 (-2 * a)), VIs (.agg #[.int .i64 P, .slice A n c]), VIs (.int .i64 (P)), VIs (.agg #[.int .i64 P, .slice A n c]), VIs (.slice U n cu), VIs (.int .i64 (b)), VIs (.int .i64 (i)), VIs (.int .i64 (-2 * a * i)), VSl w n R, VSl w n R] (fun w' => Blk w' w.heap.size 26 #[.int .i64 P, .slice A n c] ∧ Below w.heap.size w w') (by kernel_rfl) (by kernel_rfl) (fun _ _ h hb => ⟨h.1.below hb h.1.lt, h.2.trans (hb.mono h.2.size)⟩) (⟨k0.drew, hB0.drew⟩) (fun x => ?_)
 refine zS (fun w' hS hV K hK => ?_) ?_
 · obtain ⟨q0, q1⟩ := hS.1.two; go_simp; exact zO hK
 refine zS (fun w' hS hV K hK => ?_) ?_
 · have e0 := zQ hV 0; obtain ⟨q0, q1⟩ := hS.1.two; go_simp; refine (field_any _ _ _ _ _).mono ?_; rintro e v1 ⟨rfl, hb⟩; exact hK.out _ _ _ rfl rfl rfl hb
 refine zS (fun w' hS hV K hK => ?_) ?_
 · obtain ⟨q0, q1⟩ := hS.1.two; go_simp; exact zO hK
 refine zS (fun w' hS hV K hK => ?_) ?_
 · obtain ⟨q0, q1⟩ := hS.1.two; go_simp; exact zO hK
 refine zS (fun w' hS hV K hK => ?_) ?_
 · obtain ⟨q0, q1⟩ := hS.1.two; go_simp; exact zO hK
 refine zS (fun w' hS hV K hK => ?_) ?_
 · obtain ⟨q0, q1⟩ := hS.1.two; go_simp; exact zO hK
 refine zS (fun w' hS hV K hK => ?_) ?_
 · obtain ⟨q0, q1⟩ := hS.1.two; go_simp; exact zO hK
 refine zS (fun w' hS hV K hK => ?_) ?_
 · have e4 := zQ hV 4; have e5 := zQ hV 5; have e6 := zQ hV 6; obtain ⟨q0, q1⟩ := hS.1.two; go_simp; refine (HPR.out _ hS.2).mono ?_; rintro e v1 ⟨rfl, hb⟩; exact hK.out _ _ _ rfl rfl rfl hb
 refine zS (fun w' hS hV K hK => ?_) ?_
 · have e7 := zQ hV 7; obtain ⟨q0, q1⟩ := hS.1.two; go_simp; exact zO hK
 refine zS (fun w' hS hV K hK => ?_) ?_
 · obtain ⟨q0, q1⟩ := hS.1.two; go_simp; exact zO hK
 refine zS (fun w' hS hV K hK => ?_) ?_
 · have e9 := zQ hV 9; obtain ⟨q0, q1⟩ := hS.1.two; go_simp; refine (field_any _ _ _ _ _).mono ?_; rintro e v1 ⟨rfl, hb⟩; exact hK.out _ _ _ rfl rfl rfl hb
 refine zS (fun w' hS hV K hK => ?_) ?_
 · obtain ⟨q0, q1⟩ := hS.1.two; go_simp; exact zO hK
 refine zS (fun w' hS hV K hK => ?_) ?_
 · obtain ⟨q0, q1⟩ := hS.1.two; go_simp; exact zO hK
 refine zS (fun w' hS hV K hK => ?_) ?_
 · have e11 := zQ hV 11; have e12 := zQ hV 12; obtain ⟨q0, q1⟩ := hS.1.two; go_simp; refine (HNR.out _ hS.2).mono ?_; rintro e v1 ⟨rfl, hb⟩; exact hK.out _ _ _ rfl rfl rfl hb
 refine zS (fun w' hS hV K hK => ?_) ?_
 · have e10 := zQ hV 10; have e13 := zQ hV 13; obtain ⟨q0, q1⟩ := hS.1.two; go_simp; refine (HIN.out _).mono ?_; rintro e v1 ⟨rfl, rfl⟩; exact zO hK
 refine zS (fun w' hS hV K hK => ?_) ?_
 · have e8 := zQ hV 8; have e14 := zQ hV 14; obtain ⟨q0, q1⟩ := hS.1.two; go_simp; exact zO hK
 refine zS (fun w' hS hV K hK => ?_) ?_
 · have e1 := zQ hV 1; have e2 := zQ hV 2; have e3 := zQ hV 3; have e15 := zQ hV 15; obtain ⟨q0, q1⟩ := hS.1.two; go_simp; refine (HPL.out _ hS.2).mono ?_; rintro e v1 ⟨A2, c2, rfl, hM⟩; exact hK.out _ _ _ rfl rfl ⟨_, _, rfl, hM.after hS.2⟩ hM.b
 refine zS (fun w' hS hV K hK => ?_) ?_
 · obtain ⟨A16, c16, e16, h16⟩ := hV 16 (by decide); obtain ⟨q0, q1⟩ := hS.1.two; go_simp; exact hK.out _ _ _ rfl rfl ⟨_, _, rfl, h16⟩ zG
 refine fun w' hS hV => ?_
 have e0 := zT hV 0
 have e1 := zT hV 1
 have e2 := zT hV 2
 have e3 := zT hV 3
 have e4 := zT hV 4
 have e5 := zT hV 5
 have e6 := zT hV 6
 have e7 := zT hV 7
 have e8 := zT hV 8
 have e9 := zT hV 9
 have e10 := zT hV 10
 have e11 := zT hV 11
 have e12 := zT hV 12
 have e13 := zT hV 13
 have e14 := zT hV 14
 have e15 := zT hV 15
 obtain ⟨A16, c16, e16, h16⟩ := hV 16 (by decide)
 obtain ⟨A17, c17, e17, h17⟩ := hV 17 (by decide)
 simp only [e0, e1, e2, e3, e4, e5, e6, e7, e8, e9, e10, e11, e12, e13, e14, e15, e16, e17]
 clear e0 e1 e2 e3 e4 e5 e6 e7 e8 e9 e10 e11 e12 e13 e14 e15 e16 e17
 refine wpAny_done (by kernel_rfl) ?_ _
 go_wp2
 go_ret
 exact ⟨_, _, rfl, HR.out ▸ h17⟩
theorem rflL_mod {P : Int} (sq u v : List Int) : plusL P v u ((-(2 * pairL P sq u v % P * invF P (pairL P sq u u) % P)) % P) = rflL P sq u v := by
 unfold rflL
 refine plusL_mod P v u ?_
 obtain ⟨a, ha⟩ : ∃ a, a = pairL P sq u v := ⟨_, rfl⟩
 obtain ⟨i, hi⟩ : ∃ i, i = invF P (pairL P sq u u) := ⟨_, rfl⟩
 rw [← ha, ← hi, Int.emod_emod_of_dvd _ (Int.dvd_refl P)]
 have h1 : (2 * a % P * i % P) % P = (2 * a * i) % P := by rw [Int.emod_emod_of_dvd _ (Int.dvd_refl P), Int.mul_emod, Int.emod_emod_of_dvd _ (Int.dvd_refl P), ← Int.mul_emod]
 have h2 := congrArg (fun z => (-1 * z) % P) h1
 have h3 : ∀ z : Int, (-1 * (z % P)) % P = (-z) % P := fun z => by rw [Int.mul_emod, Int.emod_emod_of_dvd _ (Int.dvd_refl P), ← Int.mul_emod, Int.neg_one_mul]
 have h4 : (-1 * (2 * a % P * i % P % P)) % P = (-1 * (2 * a * i % P)) % P := h2
 rw [h3, h3] at h4
 rw [h4, Int.neg_mul, Int.neg_mul]
set_option maxHeartbeats 3200000 in
set_option maxRecDepth 8000 in
theorem l07Reflect_any (P : Int) (A : Option Addr) (n c : Nat) (sq : List Int) (U : Option Addr) (cu : Nat) (u : List Int) (Y : Option Addr) (cy : Nat) (v : List Int) (w : World) (HP : isP P = true) (hn : n ≤ 6) (ha : Rd w A n (ints sq)) (hs : NumsL P sq) (hx : Rd w U n (ints u)) (hu : NumsL P u) (hy : Rd w Y n (ints v)) (hv : NumsL P v) (hne : ¬ pairL P sq u u = 0) :
    Calls Tryz.prog 250 #[.agg #[.int .i64 P, .slice A n c], .slice U n cu, .slice Y n cy] w fun e w' => ∃ A' c', e = .returned (.slice A' n c') ∧ MkI w w' A' n c' (rflL P sq u v) := by
 obtain ⟨hp3, hp2⟩ := isP_ge HP
 have hp : 2 ≤ P := by omega
 have ha1 := pairL_small hp sq u v
 have hb1 := pairL_small hp sq u u
 have hi1 := invF_small hp (pairL P sq u u)
 have HM1 := mul_two_small hp2 ha1 hi1
 have HSA := Lib.hid hs
 have HUA := Lib.hid hu
 have HVA := Lib.hid hv
 obtain ⟨R, hR⟩ : ∃ R, R = rflL P sq u v := ⟨_, rfl⟩
 have HR := Lib.hid hR
 have HPR := Lib.hid fun (w' : World) (h : Below w.heap.size w w') => l03Pair_any P A n c sq U cu u Y cy v w' hp hp2 hn (ha.below h) hs (hx.below h) hu (hy.below h) hv
 have HNR := Lib.hid fun (w' : World) (h : Below w.heap.size w w') => l03Pair_any P A n c sq U cu u U cu u w' hp hp2 hn (ha.below h) hs (hx.below h) hu (hx.below h) hu
 have HIN := Lib.hid fun (w' : World) => l01Inv_any P (pairL P sq u u) w' HP (by omega) (by omega)
 obtain ⟨f, hf⟩ : ∃ f, f = 2 * pairL P sq u v % P * invF P (pairL P sq u u) % P := ⟨_, rfl⟩
 have hf1 : 0 ≤ f ∧ f < P := by rw [hf]; exact ⟨Int.emod_nonneg _ (by omega), Int.emod_lt_of_pos _ (by omega)⟩
 have hk1 : 0 ≤ (-f) % P ∧ (-f) % P < P := ⟨Int.emod_nonneg _ (by omega), Int.emod_lt_of_pos _ (by omega)⟩
 have HPL := Lib.hid fun (w' : World) (h : Below w.heap.size w w') => l02Plus_any P Y n cy U n cu ((-f) % P) v u w' hp hp2 (by omega) (Nat.le_refl _) (hy.below h) hv (hx.below h) hu (by omega) (by omega)
 rw [show plusL P v u ((-f) % P) = R by rw [hf, hR]; exact rflL_mod sq u v] at HPL
 obtain ⟨a, hA⟩ : ∃ a, a = pairL P sq u v := ⟨_, rfl⟩
 obtain ⟨b, hB⟩ : ∃ b, b = pairL P sq u u := ⟨_, rfl⟩
 rw [← hB] at HNR HIN HM1 hi1 hb1 hne hf
 rw [← hA] at HPR HM1 ha1 hf
 obtain ⟨i, hi⟩ : ∃ i, i = invF P b := ⟨_, rfl⟩
 rw [← hi] at HIN HM1 hi1 hf
 have h2a : 0 ≤ 2 * a % P ∧ 2 * a % P < P := ⟨Int.emod_nonneg _ (by omega), Int.emod_lt_of_pos _ (by omega)⟩
 have h2i := mul_two_small hp2 h2a hi1
 have W1 := i64_fit (2 * a) (by omega) (by omega)
 have T1 := Int.tmod_eq_emod_of_nonneg (a := 2 * a) (b := P) (by omega)
 have W2 := i64_fit (2 * a % P * i) (by omega) (by omega)
 have T2 := Int.tmod_eq_emod_of_nonneg (a := 2 * a % P * i) (b := P) (by omega)
 have W3 := i64_fit (P - f) (by omega) (by omega)
 have T3 : (P - f).tmod P = (-f) % P := by rw [Int.tmod_eq_emod_of_nonneg (by omega), Int.sub_eq_add_neg, Int.add_emod, Int.emod_self, Int.zero_add, Int.emod_emod_of_dvd _ (Int.dvd_refl P)]
 have hP0 : ¬ P = 0 := by omega
 have HW := Lib.hid (And.intro W3 T3)
 have HF := Lib.hid hf
 have hB0 : Below w.heap.size w (w.alloc (.cells #[.int .i64 P, .slice A n c] 26)) := zG.alloc (Nat.le_refl _) _
 have k0 : Blk (w.alloc (.cells #[.int .i64 P, .slice A n c] 26)) w.heap.size 26 #[.int .i64 P, .slice A n c] := Blk.new _ _ _
 obtain ⟨q0, q1⟩ := k0.two
 clear hA hB hi hR hs hu hv ha hx hy HP W3 T3 hf hk1 hf1
 go_enter Tryz.func250, Tryz.ntmps250
 go_wp2
 refine wp_obs 20 [[],[],[],[0,1,2],[0,1,2,3],[],[5],[0,1,2,3,4,5,6],[],[8],[],[],[],[10,11,12],[8,9,10,11,12,13],[0,1,2,3,4,5,6,7,8,9,10,11,12,13,14],[],[16],[0,1,2,3,4,5,6,7,8,9,10,11,12,13,14,15,16,17],[0,1,2,3,4,5,6,7,8,9,10,11,12,13,14,15,16,17,18]] [VIs (.agg #[.int .i64 P, .slice A n c]), VIs (.slice U n cu), VIs (.slice Y n cy), VIs (.int .i64 (a)), VIs (.int .i64 (2 * a)), VIs (.pointer (some ⟨w.heap.size, 0, none⟩)), VIs (.int .i64 (P)), VIs (.int .i64 (2 * a % P)), VIs (.pointer (some ⟨w.heap.size, 0, none⟩)), VIs (.int .i64 (P)), VIs (.agg #[.int .i64 P, .slice A n c]), VIs (.slice U n cu), VIs (.slice U n cu), VIs (.int .i64 (b)), VIs (.int .i64 (i)), VIs (.int .i64 (2 * a % P * i)), VIs (.pointer (some ⟨w.heap.size, 0, none⟩)), VIs (.int .i64 (P)), VIs (.int .i64 (2 * a % P * i % P)), VIs (.int .i64 (2 * a % P * i % P))] (fun w' => Blk w' w.heap.size 26 #[.int .i64 P, .slice A n c] ∧ Below w.heap.size w w') (by kernel_rfl) (by kernel_rfl) (fun _ _ h hb => ⟨h.1.below hb h.1.lt, h.2.trans (hb.mono h.2.size)⟩) (⟨k0.drew, hB0.drew⟩) (fun x => ?_)
 refine zS (fun w' hS hV K hK => ?_) ?_
 · obtain ⟨q0, q1⟩ := hS.1.two; go_simp; exact zO hK
 refine zS (fun w' hS hV K hK => ?_) ?_
 · obtain ⟨q0, q1⟩ := hS.1.two; go_simp; exact zO hK
 refine zS (fun w' hS hV K hK => ?_) ?_
 · obtain ⟨q0, q1⟩ := hS.1.two; go_simp; exact zO hK
 refine zS (fun w' hS hV K hK => ?_) ?_
 · have e0 := zQ hV 0; have e1 := zQ hV 1; have e2 := zQ hV 2; obtain ⟨q0, q1⟩ := hS.1.two; go_simp; refine (HPR.out _ hS.2).mono ?_; rintro e v1 ⟨rfl, hb⟩; exact hK.out _ _ _ rfl rfl rfl hb
 refine zS (fun w' hS hV K hK => ?_) ?_
 · have e3 := zQ hV 3; obtain ⟨q0, q1⟩ := hS.1.two; go_simp; exact zO hK
 refine zS (fun w' hS hV K hK => ?_) ?_
 · obtain ⟨q0, q1⟩ := hS.1.two; go_simp; exact zO hK
 refine zS (fun w' hS hV K hK => ?_) ?_
 · have e5 := zQ hV 5; obtain ⟨q0, q1⟩ := hS.1.two; go_simp; exact zO hK
 refine zS (fun w' hS hV K hK => ?_) ?_
 · have e4 := zQ hV 4; have e6 := zQ hV 6; obtain ⟨q0, q1⟩ := hS.1.two; go_simp; exact zO hK
 refine zS (fun w' hS hV K hK => ?_) ?_
 · obtain ⟨q0, q1⟩ := hS.1.two; go_simp; exact zO hK
 refine zS (fun w' hS hV K hK => ?_) ?_
 · have e8 := zQ hV 8; obtain ⟨q0, q1⟩ := hS.1.two; go_simp; exact zO hK
 refine zS (fun w' hS hV K hK => ?_) ?_
 · obtain ⟨q0, q1⟩ := hS.1.two; go_simp; exact zO hK
 refine zS (fun w' hS hV K hK => ?_) ?_
 · obtain ⟨q0, q1⟩ := hS.1.two; go_simp; exact zO hK
 refine zS (fun w' hS hV K hK => ?_) ?_
 · obtain ⟨q0, q1⟩ := hS.1.two; go_simp; exact zO hK
 refine zS (fun w' hS hV K hK => ?_) ?_
 · have e10 := zQ hV 10; have e11 := zQ hV 11; have e12 := zQ hV 12; obtain ⟨q0, q1⟩ := hS.1.two; go_simp; refine (HNR.out _ hS.2).mono ?_; rintro e v1 ⟨rfl, hb⟩; exact hK.out _ _ _ rfl rfl rfl hb
 refine zS (fun w' hS hV K hK => ?_) ?_
 · have e9 := zQ hV 9; have e13 := zQ hV 13; obtain ⟨q0, q1⟩ := hS.1.two; go_simp; refine (HIN.out _).mono ?_; rintro e v1 ⟨rfl, rfl⟩; exact zO hK
 refine zS (fun w' hS hV K hK => ?_) ?_
 · have e7 := zQ hV 7; have e14 := zQ hV 14; obtain ⟨q0, q1⟩ := hS.1.two; go_simp; exact zO hK
 refine zS (fun w' hS hV K hK => ?_) ?_
 · obtain ⟨q0, q1⟩ := hS.1.two; go_simp; exact zO hK
 refine zS (fun w' hS hV K hK => ?_) ?_
 · have e16 := zQ hV 16; obtain ⟨q0, q1⟩ := hS.1.two; go_simp; exact zO hK
 refine zS (fun w' hS hV K hK => ?_) ?_
 · have e15 := zQ hV 15; have e17 := zQ hV 17; obtain ⟨q0, q1⟩ := hS.1.two; go_simp; exact zO hK
 refine zS (fun w' hS hV K hK => ?_) ?_
 · have e18 := zQ hV 18; obtain ⟨q0, q1⟩ := hS.1.two; go_simp; exact zO hK
 refine fun w' hS hV => ?_
 have e0 := zT hV 0
 have e1 := zT hV 1
 have e2 := zT hV 2
 have e3 := zT hV 3
 have e4 := zT hV 4
 have e5 := zT hV 5
 have e6 := zT hV 6
 have e7 := zT hV 7
 have e8 := zT hV 8
 have e9 := zT hV 9
 have e10 := zT hV 10
 have e11 := zT hV 11
 have e12 := zT hV 12
 have e13 := zT hV 13
 have e14 := zT hV 14
 have e15 := zT hV 15
 have e16 := zT hV 16
 have e17 := zT hV 17
 have e18 := zT hV 18
 have e19 := zT hV 19
 simp only [e0, e1, e2, e3, e4, e5, e6, e7, e8, e9, e10, e11, e12, e13, e14, e15, e16, e17, e18, e19]
 clear e0 e1 e2 e3 e4 e5 e6 e7 e8 e9 e10 e11 e12 e13 e14 e15 e16 e17 e18 e19
 refine wpAny_done (by kernel_rfl) ?_ _
 have k1 := hS.1
 have HB1 := Lib.hid hS.2
 rw [← HF.out]
 obtain ⟨w1, rfl⟩ : ∃ W, W = w' := ⟨_, rfl⟩
 obtain ⟨W3, T3⟩ := HW.out
 clear hS q0 q1 W1 T1 W2 T2 k0 hB0
 obtain ⟨q0, q1⟩ := k1.two
 go_wp2
 refine wp_obs 13 [[],[0],[],[],[],[4],[],[4,5,6],[],[8],[4,5,6,7,8,9],[0,1,2,3,4,5,6,7,8,9,10],[0,1,2,3,4,5,6,7,8,9,10,11]] [VIs (.pointer (some ⟨w.heap.size, 0, none⟩)), VIs (.int .i64 (P)), VIs (.slice Y n cy), VIs (.slice U n cu), VIs (.pointer (some ⟨w.heap.size, 0, none⟩)), VIs (.int .i64 (P)), VIs (.int .i64 (f)), VIs (.int .i64 (P - f)), VIs (.pointer (some ⟨w.heap.size, 0, none⟩)), VIs (.int .i64 (P)), VIs (.int .i64 ((-f) % P)), VSl w n R, VSl w n R] (fun w' => Blk w' w.heap.size 26 #[.int .i64 P, .slice A n c] ∧ Below w1.heap.size w1 w') (by kernel_rfl) (by kernel_rfl) (fun _ _ h hb => ⟨h.1.below hb h.1.lt, h.2.trans (hb.mono h.2.size)⟩) (⟨k1.drew, zG.drew⟩) (fun x => ?_)
 refine zS (fun w' hS hV K hK => ?_) ?_
 · obtain ⟨q0, q1⟩ := hS.1.two; go_simp; exact zO hK
 refine zS (fun w' hS hV K hK => ?_) ?_
 · have e0 := zQ hV 0; obtain ⟨q0, q1⟩ := hS.1.two; go_simp; exact zO hK
 refine zS (fun w' hS hV K hK => ?_) ?_
 · obtain ⟨q0, q1⟩ := hS.1.two; go_simp; exact zO hK
 refine zS (fun w' hS hV K hK => ?_) ?_
 · obtain ⟨q0, q1⟩ := hS.1.two; go_simp; exact zO hK
 refine zS (fun w' hS hV K hK => ?_) ?_
 · obtain ⟨q0, q1⟩ := hS.1.two; go_simp; exact zO hK
 refine zS (fun w' hS hV K hK => ?_) ?_
 · have e4 := zQ hV 4; obtain ⟨q0, q1⟩ := hS.1.two; go_simp; exact zO hK
 refine zS (fun w' hS hV K hK => ?_) ?_
 · obtain ⟨q0, q1⟩ := hS.1.two; go_simp; exact zO hK
 refine zS (fun w' hS hV K hK => ?_) ?_
 · have e5 := zQ hV 5; have e6 := zQ hV 6; obtain ⟨q0, q1⟩ := hS.1.two; go_simp; exact zO hK
 refine zS (fun w' hS hV K hK => ?_) ?_
 · obtain ⟨q0, q1⟩ := hS.1.two; go_simp; exact zO hK
 refine zS (fun w' hS hV K hK => ?_) ?_
 · have e8 := zQ hV 8; obtain ⟨q0, q1⟩ := hS.1.two; go_simp; exact zO hK
 refine zS (fun w' hS hV K hK => ?_) ?_
 · have e7 := zQ hV 7; have e9 := zQ hV 9; obtain ⟨q0, q1⟩ := hS.1.two; go_simp; exact zO hK
 refine zS (fun w' hS hV K hK => ?_) ?_
 · have e1 := zQ hV 1; have e2 := zQ hV 2; have e3 := zQ hV 3; have e10 := zQ hV 10; obtain ⟨q0, q1⟩ := hS.1.two; go_simp; refine (HPL.out _ (HB1.out.trans (hS.2.mono HB1.out.size))).mono ?_; rintro e v1 ⟨A2, c2, rfl, hM⟩; exact hK.out _ _ _ rfl rfl ⟨_, _, rfl, hM.after (HB1.out.trans (hS.2.mono HB1.out.size))⟩ hM.b
 refine zS (fun w' hS hV K hK => ?_) ?_
 · obtain ⟨A11, c11, e11, h11⟩ := hV 11 (by decide); obtain ⟨q0, q1⟩ := hS.1.two; go_simp; exact hK.out _ _ _ rfl rfl ⟨_, _, rfl, h11⟩ zG
 refine fun w' hS hV => ?_
 have e0 := zT hV 0
 have e1 := zT hV 1
 have e2 := zT hV 2
 have e3 := zT hV 3
 have e4 := zT hV 4
 have e5 := zT hV 5
 have e6 := zT hV 6
 have e7 := zT hV 7
 have e8 := zT hV 8
 have e9 := zT hV 9
 have e10 := zT hV 10
 obtain ⟨A11, c11, e11, h11⟩ := hV 11 (by decide)
 obtain ⟨A12, c12, e12, h12⟩ := hV 12 (by decide)
 simp only [e0, e1, e2, e3, e4, e5, e6, e7, e8, e9, e10, e11, e12]
 clear e0 e1 e2 e3 e4 e5 e6 e7 e8 e9 e10 e11 e12
 refine wpAny_done (by kernel_rfl) ?_ _
 go_wp2
 go_ret
 exact ⟨_, _, rfl, HR.out ▸ h12⟩
theorem isMu_spec3 {P : Int} {sq ys : List Int} (h : isMu P sq ys = true) : ys.length = pw sq.length ∧ NumsL P ys := by
 unfold isMu at h
 simp only [Bool.and_eq_true, beq_iff_eq] at h
 exact ⟨by have := h.1; omega, nums_numsL h.2⟩
theorem codeM_spec3 {P : Int} {sq : List Int} {ms : List (List Int)} (h : codeM P sq ms = 0) : isP P = true ∧ 2 ≤ P ∧ P ≤ 13 ∧ 1 ≤ sq.length ∧ sq.length ≤ 6 ∧ NumsL P sq ∧ ∀ ys ∈ ms, ys.length = pw sq.length ∧ NumsL P ys := by
 obtain ⟨h1, h2⟩ := codeM_sp h
 obtain ⟨hp, hd1, hd2, hnum⟩ := isSp_dim h1
 have := isP_ge hp
 exact ⟨hp, by omega, by omega, hd1, hd2, nums_numsL hnum, fun ys hy => isMu_spec3 (h2 ys hy)⟩
theorem Blk.newAt3 {w : World} {t : TypeId} {cs : Array Value} {g : Nat} (hg : g = w.heap.size) : Blk (w.alloc (.cells cs t)) g t cs := hg ▸ Blk.new w t cs
theorem l01Same_b {b : Bool} (A B : Option Addr) (n m c d : Nat) (xs ys : List Int) (w : World) (hn : n ≤ 1099511627776) (hm : m ≤ 1099511627776) (ha : Rd w A n (ints xs)) (hb : Rd w B m (ints ys)) (h : decide (xs = ys) = b) :
    Calls Tryz.prog 179 #[.slice A n c, .slice B m d] w fun e w' => e = .returned (.bool b) ∧ ∃ j, w' = w.drewN j := h ▸ l01Same_any A B n m c d xs ys w hn hm ha hb
set_option maxHeartbeats 3200000 in
set_option maxRecDepth 8000 in
theorem l07Is_A (P : Int) (A : Option Addr) (n c : Nat) (sq : List Int) (X : Option Addr) (cx : Nat) (xs : List Int) (w : World) (hp : 2 ≤ P) (hp2 : P ≤ 13) (hn : n ≤ 6) (ha : Rd w A n (ints sq)) (hs : NumsL P sq) (hx : Rd w X (pw n) (ints xs)) (hxs : NumsL P xs) (_hcx : pw n ≤ cx) (_HP : isP P = true) (h1 : nrmL P sq xs = 0) :
    Calls Tryz.prog 204 #[.agg #[.int .i64 P, .slice A n c], .slice X (pw n) cx] w fun e w' => e = .returned (.bool (versB P sq n xs)) ∧ Below w.heap.size w w' := by
 have hB0 : Below w.heap.size w (w.alloc (.cells #[.int .i64 P, .slice A n c] 26)) := zG.alloc (Nat.le_refl _) _
 have k0 : Blk (w.alloc (.cells #[.int .i64 P, .slice A n c] 26)) w.heap.size 26 #[.int .i64 P, .slice A n c] := Blk.new _ _ _
 have HPW : pw n ≤ 65536 := Nat.le_trans (pw_le (show n ≤ 10 by omega)) (by decide)
 have HPW64 : pw n ≤ 64 := pw_le hn
 have HNN := mulL_nums (show 0 < P by omega) sq xs (revL P xs)
 have HSC : Hid (decide (mulL P sq xs (revL P xs) = scaleL P (bladeL n 0) (nrmL P sq xs)) = onlyL (mulL P sq xs (revL P xs)) 0) := Lib.hid (onlyL_scalar hp hn (by rw [mulL_len, hx.lenI]) HNN)
 have HEV := Lib.hid (evnV_neg (gs := gradesL xs) fun g hg => (gradesL_range xs g hg).1)
 have b1 : (nrmL P sq xs == 0) = true := by rw [h1]; rfl
 have H1 := Lib.hid b1
 clear h1
 go_enter Tryz.func204, Tryz.ntmps204
 go_wp2_with fail
 refine (l04Reverse_any P A n c X (pw n) cx xs _ hp hp2 HPW64 (hx.below hB0) hxs).mono ?_
 rintro e w1 ⟨Bk, cB, rfl, hBk⟩
 have hB1 := hB0.trans (hBk.b.mono (by simp))
 have k1 := k0.below hBk.b k0.lt
 obtain ⟨q0, q1⟩ := k1.two
 clear k0 hB0
 go_wp2_with fail
 refine (l04Times_any P A n c sq X cx xs Bk cB _ _ hp hp2 hn (ha.below hB1) hs (hx.below hB1) hxs hBk.rd (sgnL_nums (by omega) revT hxs)).mono ?_
 rintro e w2 ⟨N, cN, rfl, hN⟩
 have hB2 := hB1.trans (hN.b.mono hB1.size)
 have k2 := k1.below hN.b k1.lt
 have hBk2 := hBk.below hN.b
 rcases hN.2.form with ⟨_, hz⟩ | ⟨gN, hgN, _, _⟩
 · exact absurd hz (by have := pw_pos n; omega)
 subst hgN
 clear q0 q1 k1 hB1 hBk
 go_wp2
 refine wp_obs 23 [[],[0],[0,1],[0,1,2],[0,1,2,3],[0,1,2,3,4],[0,1,2,3,4],[0,1,2,3,4,6],[0,1,2,3,4],[0,1,2,3,4,8],[0,1,2,3,4],[0,1,2,3,4,10],[0,1,2,3,4,10,11],[0,1,2,3,4,6,7,8,9,10,11,12],[0,1,2,3,4,5,6,7,8,9,10,11,12,13],[0,1,2,3,4,5,6,7,8,9,10,11,12,13,14],[0,1,2,3,4,5,6,7,8,9,10,11,12,13,14,15],[0,1,2,3,4,5,6,7,8,9,10,11,12,13,14,15,16],[0,1,2,3,4,5,6,7,8,9,10,11,12,13,14,15,16,17],[0,1,2,3,4,5,6,7,8,9,10,11,12,13,14,15,16,17],[0,1,2,3,4,5,6,7,8,9,10,11,12,13,14,15,16,17,18,19],[0,1,2,3,4,5,6,7,8,9,10,11,12,13,14,15,16,17,18,19,20],[0,1,2,3,4,5,6,7,8,9,10,11,12,13,14,15,16,17,18,19,20,21]] [VIs (.slice (some ⟨gN, 0, none⟩) (pw n) cN), VIs (.pointer (some ⟨gN, 0, none⟩)), VIs (.int .i64 (nrmL P sq xs)), VIs (.bool true), VIs (.bool true), VIs undef, VIs undef, VIs undef, VIs undef, VIs undef, VIs undef, VIs undef, VIs undef, VIs undef, VIs undef, VIs undef, VIs (.bool true), VIs (.bool true), VIs undef, VIs undef, VIs undef, VIs undef, VIs (.bool true)] (fun w' => Blk w' w.heap.size 26 #[.int .i64 P, .slice A n c] ∧ Below w.heap.size w w' ∧ Below w2.heap.size w2 w') (by kernel_rfl) (by kernel_rfl) (fun _ _ h hb => ⟨h.1.below hb h.1.lt, h.2.1.trans (hb.mono h.2.1.size), h.2.2.trans (hb.mono h.2.2.size)⟩) (⟨k2.drew, hB2.drew, zG.drew⟩) (fun x => ?_)
 refine zS (fun w' hS hV K hK => ?_) ?_
 · obtain ⟨q0, q1⟩ := hS.1.two; have hcN : w'.cell? ⟨gN, 0, none⟩ = some (.int .i64 (nrmL P sq xs)) := (mkI_at (hN.below hS.2.2) (pw_pos n)).1; have hposI : 0 < pw n := pw_pos n; go_simp; exact zO hK
 refine zS (fun w' hS hV K hK => ?_) ?_
 · simp only [List.mem_cons, zJ, or_false, forall_eq, zH, zI, VIs, VAny] at hV; obtain e0 := hV; obtain ⟨q0, q1⟩ := hS.1.two; have hcN : w'.cell? ⟨gN, 0, none⟩ = some (.int .i64 (nrmL P sq xs)) := (mkI_at (hN.below hS.2.2) (pw_pos n)).1; have hposI : 0 < pw n := pw_pos n; go_simp; exact zO hK
 refine zS (fun w' hS hV K hK => ?_) ?_
 · have e1 := zQ hV 1; obtain ⟨q0, q1⟩ := hS.1.two; have hcN : w'.cell? ⟨gN, 0, none⟩ = some (.int .i64 (nrmL P sq xs)) := (mkI_at (hN.below hS.2.2) (pw_pos n)).1; have hposI : 0 < pw n := pw_pos n; go_simp; exact zO hK
 refine zS (fun w' hS hV K hK => ?_) ?_
 · have e2 := zQ hV 2; obtain ⟨q0, q1⟩ := hS.1.two; have hcN : w'.cell? ⟨gN, 0, none⟩ = some (.int .i64 (nrmL P sq xs)) := (mkI_at (hN.below hS.2.2) (pw_pos n)).1; have hposI : 0 < pw n := pw_pos n; go_simp; exact zO hK
 refine zS (fun w' hS hV K hK => ?_) ?_
 · have e3 := zQ hV 3; obtain ⟨q0, q1⟩ := hS.1.two; have hcN : w'.cell? ⟨gN, 0, none⟩ = some (.int .i64 (nrmL P sq xs)) := (mkI_at (hN.below hS.2.2) (pw_pos n)).1; have hposI : 0 < pw n := pw_pos n; go_simp; exact zO hK
 refine zS (fun w' hS hV K hK => ?_) ?_
 · have e4 := zQ hV 4; obtain ⟨q0, q1⟩ := hS.1.two; have hcN : w'.cell? ⟨gN, 0, none⟩ = some (.int .i64 (nrmL P sq xs)) := (mkI_at (hN.below hS.2.2) (pw_pos n)).1; have hposI : 0 < pw n := pw_pos n; go_simp; exact zO hK
 refine zS (fun w' hS hV K hK => ?_) ?_
 · have e4 := zQ hV 4; obtain ⟨q0, q1⟩ := hS.1.two; have hcN : w'.cell? ⟨gN, 0, none⟩ = some (.int .i64 (nrmL P sq xs)) := (mkI_at (hN.below hS.2.2) (pw_pos n)).1; have hposI : 0 < pw n := pw_pos n; go_simp; exact zO hK
 refine zS (fun w' hS hV K hK => ?_) ?_
 · have e4 := zQ hV 4; have e6 := zQ hV 6; obtain ⟨q0, q1⟩ := hS.1.two; have hcN : w'.cell? ⟨gN, 0, none⟩ = some (.int .i64 (nrmL P sq xs)) := (mkI_at (hN.below hS.2.2) (pw_pos n)).1; have hposI : 0 < pw n := pw_pos n; go_simp; exact zO hK
 refine zS (fun w' hS hV K hK => ?_) ?_
 · have e4 := zQ hV 4; obtain ⟨q0, q1⟩ := hS.1.two; have hcN : w'.cell? ⟨gN, 0, none⟩ = some (.int .i64 (nrmL P sq xs)) := (mkI_at (hN.below hS.2.2) (pw_pos n)).1; have hposI : 0 < pw n := pw_pos n; go_simp; exact zO hK
 refine zS (fun w' hS hV K hK => ?_) ?_
 · have e4 := zQ hV 4; have e8 := zQ hV 8; obtain ⟨q0, q1⟩ := hS.1.two; have hcN : w'.cell? ⟨gN, 0, none⟩ = some (.int .i64 (nrmL P sq xs)) := (mkI_at (hN.below hS.2.2) (pw_pos n)).1; have hposI : 0 < pw n := pw_pos n; go_simp; exact zO hK
 refine zS (fun w' hS hV K hK => ?_) ?_
 · have e4 := zQ hV 4; obtain ⟨q0, q1⟩ := hS.1.two; have hcN : w'.cell? ⟨gN, 0, none⟩ = some (.int .i64 (nrmL P sq xs)) := (mkI_at (hN.below hS.2.2) (pw_pos n)).1; have hposI : 0 < pw n := pw_pos n; go_simp; exact zO hK
 refine zS (fun w' hS hV K hK => ?_) ?_
 · have e4 := zQ hV 4; have e10 := zQ hV 10; obtain ⟨q0, q1⟩ := hS.1.two; have hcN : w'.cell? ⟨gN, 0, none⟩ = some (.int .i64 (nrmL P sq xs)) := (mkI_at (hN.below hS.2.2) (pw_pos n)).1; have hposI : 0 < pw n := pw_pos n; go_simp; exact zO hK
 refine zS (fun w' hS hV K hK => ?_) ?_
 · have e4 := zQ hV 4; have e11 := zQ hV 11; obtain ⟨q0, q1⟩ := hS.1.two; have hcN : w'.cell? ⟨gN, 0, none⟩ = some (.int .i64 (nrmL P sq xs)) := (mkI_at (hN.below hS.2.2) (pw_pos n)).1; have hposI : 0 < pw n := pw_pos n; go_simp; exact zO hK
 refine zS (fun w' hS hV K hK => ?_) ?_
 · have e4 := zQ hV 4; have e7 := zQ hV 7; have e9 := zQ hV 9; have e12 := zQ hV 12; obtain ⟨q0, q1⟩ := hS.1.two; have hcN : w'.cell? ⟨gN, 0, none⟩ = some (.int .i64 (nrmL P sq xs)) := (mkI_at (hN.below hS.2.2) (pw_pos n)).1; have hposI : 0 < pw n := pw_pos n; go_simp; exact zO hK
 refine zS (fun w' hS hV K hK => ?_) ?_
 · have e4 := zQ hV 4; have e5 := zQ hV 5; have e13 := zQ hV 13; obtain ⟨q0, q1⟩ := hS.1.two; have hcN : w'.cell? ⟨gN, 0, none⟩ = some (.int .i64 (nrmL P sq xs)) := (mkI_at (hN.below hS.2.2) (pw_pos n)).1; have hposI : 0 < pw n := pw_pos n; go_simp; exact zO hK
 refine zS (fun w' hS hV K hK => ?_) ?_
 · have e4 := zQ hV 4; have e14 := zQ hV 14; obtain ⟨q0, q1⟩ := hS.1.two; have hcN : w'.cell? ⟨gN, 0, none⟩ = some (.int .i64 (nrmL P sq xs)) := (mkI_at (hN.below hS.2.2) (pw_pos n)).1; have hposI : 0 < pw n := pw_pos n; go_simp; exact zO hK
 refine zS (fun w' hS hV K hK => ?_) ?_
 · have e4 := zQ hV 4; have e15 := zQ hV 15; obtain ⟨q0, q1⟩ := hS.1.two; have hcN : w'.cell? ⟨gN, 0, none⟩ = some (.int .i64 (nrmL P sq xs)) := (mkI_at (hN.below hS.2.2) (pw_pos n)).1; have hposI : 0 < pw n := pw_pos n; go_simp; exact zO hK
 refine zS (fun w' hS hV K hK => ?_) ?_
 · have e16 := zQ hV 16; obtain ⟨q0, q1⟩ := hS.1.two; have hcN : w'.cell? ⟨gN, 0, none⟩ = some (.int .i64 (nrmL P sq xs)) := (mkI_at (hN.below hS.2.2) (pw_pos n)).1; have hposI : 0 < pw n := pw_pos n; go_simp; exact zO hK
 refine zS (fun w' hS hV K hK => ?_) ?_
 · have e17 := zQ hV 17; obtain ⟨q0, q1⟩ := hS.1.two; have hcN : w'.cell? ⟨gN, 0, none⟩ = some (.int .i64 (nrmL P sq xs)) := (mkI_at (hN.below hS.2.2) (pw_pos n)).1; have hposI : 0 < pw n := pw_pos n; go_simp; exact zO hK
 refine zS (fun w' hS hV K hK => ?_) ?_
 · have e17 := zQ hV 17; obtain ⟨q0, q1⟩ := hS.1.two; have hcN : w'.cell? ⟨gN, 0, none⟩ = some (.int .i64 (nrmL P sq xs)) := (mkI_at (hN.below hS.2.2) (pw_pos n)).1; have hposI : 0 < pw n := pw_pos n; go_simp; exact zO hK
 refine zS (fun w' hS hV K hK => ?_) ?_
 · have e17 := zQ hV 17; have e18 := zQ hV 18; have e19 := zQ hV 19; obtain ⟨q0, q1⟩ := hS.1.two; have hcN : w'.cell? ⟨gN, 0, none⟩ = some (.int .i64 (nrmL P sq xs)) := (mkI_at (hN.below hS.2.2) (pw_pos n)).1; have hposI : 0 < pw n := pw_pos n; go_simp; exact zO hK
 refine zS (fun w' hS hV K hK => ?_) ?_
 · have e17 := zQ hV 17; have e20 := zQ hV 20; obtain ⟨q0, q1⟩ := hS.1.two; have hcN : w'.cell? ⟨gN, 0, none⟩ = some (.int .i64 (nrmL P sq xs)) := (mkI_at (hN.below hS.2.2) (pw_pos n)).1; have hposI : 0 < pw n := pw_pos n; go_simp; exact zO hK
 refine zS (fun w' hS hV K hK => ?_) ?_
 · have e17 := zQ hV 17; have e21 := zQ hV 21; obtain ⟨q0, q1⟩ := hS.1.two; have hcN : w'.cell? ⟨gN, 0, none⟩ = some (.int .i64 (nrmL P sq xs)) := (mkI_at (hN.below hS.2.2) (pw_pos n)).1; have hposI : 0 < pw n := pw_pos n; go_simp; exact zO hK
 refine fun w' hS hV => ?_
 have hV := fun i hi => hV i (List.mem_range.1 hi)
 simp only [List.range, List.range.loop, zL, zM, zH, zI, VIs, VAny] at hV
 obtain ⟨e0, e1, e2, e3, e4, e5, e6, e7, e8, e9, e10, e11, e12, e13, e14, e15, e16, e17, e18, e19, e20, e21, e22⟩ := hV
 simp only [e0, e1, e2, e3, e4, e5, e6, e7, e8, e9, e10, e11, e12, e13, e14, e15, e16, e17, e18, e19, e20, e21, e22]
 clear e0 e1 e2 e3 e4 e5 e6 e7 e8 e9 e10 e11 e12 e13 e14 e15 e16 e17 e18 e19 e20 e21 e22
 refine wpAny_done (by kernel_rfl) ?_ _
 go_wp2
 go_ret
 exact ⟨ret_bool (by unfold versB; rw [H1.out]; rfl), hS.2.1⟩
set_option maxHeartbeats 3200000 in
set_option maxRecDepth 8000 in
theorem l07Is_B (P : Int) (A : Option Addr) (n c : Nat) (sq : List Int) (X : Option Addr) (cx : Nat) (xs : List Int) (w : World) (hp : 2 ≤ P) (hp2 : P ≤ 13) (hn : n ≤ 6) (ha : Rd w A n (ints sq)) (hs : NumsL P sq) (hx : Rd w X (pw n) (ints xs)) (hxs : NumsL P xs) (_hcx : pw n ≤ cx) (_HP : isP P = true) (h1 : ¬ nrmL P sq xs = 0) (h2 : onlyL (mulL P sq xs (revL P xs)) 0 = false) :
    Calls Tryz.prog 204 #[.agg #[.int .i64 P, .slice A n c], .slice X (pw n) cx] w fun e w' => e = .returned (.bool (versB P sq n xs)) ∧ Below w.heap.size w w' := by
 have hB0 : Below w.heap.size w (w.alloc (.cells #[.int .i64 P, .slice A n c] 26)) := zG.alloc (Nat.le_refl _) _
 have k0 : Blk (w.alloc (.cells #[.int .i64 P, .slice A n c] 26)) w.heap.size 26 #[.int .i64 P, .slice A n c] := Blk.new _ _ _
 have HPW : pw n ≤ 65536 := Nat.le_trans (pw_le (show n ≤ 10 by omega)) (by decide)
 have HPW64 : pw n ≤ 64 := pw_le hn
 have HNN := mulL_nums (show 0 < P by omega) sq xs (revL P xs)
 have HSC : Hid (decide (mulL P sq xs (revL P xs) = scaleL P (bladeL n 0) (nrmL P sq xs)) = onlyL (mulL P sq xs (revL P xs)) 0) := Lib.hid (onlyL_scalar hp hn (by rw [mulL_len, hx.lenI]) HNN)
 have HEV := Lib.hid (evnV_neg (gs := gradesL xs) fun g hg => (gradesL_range xs g hg).1)
 have b1 : (nrmL P sq xs == 0) = false := by simp [h1]
 have H1 := Lib.hid b1
 have H2 := Lib.hid h2
 have HO : Hid (decide (mulL P sq xs (revL P xs) = scaleL P (bladeL n 0) (nrmL P sq xs)) = false) := Lib.hid (HSC.out.trans h2)
 clear h1 h2
 go_enter Tryz.func204, Tryz.ntmps204
 go_wp2_with fail
 refine (l04Reverse_any P A n c X (pw n) cx xs _ hp hp2 HPW64 (hx.below hB0) hxs).mono ?_
 rintro e w1 ⟨Bk, cB, rfl, hBk⟩
 have hB1 := hB0.trans (hBk.b.mono (by simp))
 have k1 := k0.below hBk.b k0.lt
 obtain ⟨q0, q1⟩ := k1.two
 clear k0 hB0
 go_wp2_with fail
 refine (l04Times_any P A n c sq X cx xs Bk cB _ _ hp hp2 hn (ha.below hB1) hs (hx.below hB1) hxs hBk.rd (sgnL_nums (by omega) revT hxs)).mono ?_
 rintro e w2 ⟨N, cN, rfl, hN⟩
 have hB2 := hB1.trans (hN.b.mono hB1.size)
 have k2 := k1.below hN.b k1.lt
 have hBk2 := hBk.below hN.b
 rcases hN.2.form with ⟨_, hz⟩ | ⟨gN, hgN, _, _⟩
 · exact absurd hz (by have := pw_pos n; omega)
 subst hgN
 clear q0 q1 k1 hB1 hBk
 go_wp2
 refine wp_obs 23 [[],[0],[0,1],[0,1,2],[0,1,2,3],[0,1,2,3,4],[0,1,2,3,4],[0,1,2,3,4,6],[0,1,2,3,4],[0,1,2,3,4,8],[0,1,2,3,4],[0,1,2,3,4,10],[0,1,2,3,4,10,11],[0,1,2,3,4,6,7,8,9,10,11,12],[0,1,2,3,4,5,6,7,8,9,10,11,12,13],[0,1,2,3,4,5,6,7,8,9,10,11,12,13,14],[0,1,2,3,4,5,6,7,8,9,10,11,12,13,14,15],[0,1,2,3,4,5,6,7,8,9,10,11,12,13,14,15,16],[0,1,2,3,4,5,6,7,8,9,10,11,12,13,14,15,16,17],[0,1,2,3,4,5,6,7,8,9,10,11,12,13,14,15,16,17],[0,1,2,3,4,5,6,7,8,9,10,11,12,13,14,15,16,17,18,19],[0,1,2,3,4,5,6,7,8,9,10,11,12,13,14,15,16,17,18,19,20],[0,1,2,3,4,5,6,7,8,9,10,11,12,13,14,15,16,17,18,19,20,21]] [VIs (.slice (some ⟨gN, 0, none⟩) (pw n) cN), VIs (.pointer (some ⟨gN, 0, none⟩)), VIs (.int .i64 (nrmL P sq xs)), VIs (.bool false), VIs (.bool false), VIs (.slice (some ⟨gN, 0, none⟩) (pw n) cN), VIs (.pointer (some ⟨w.heap.size, 0, none⟩)), VIs (.int .i64 P), VIs (.agg #[.int .i64 P, .slice A n c]), VSl w (pw n) (bladeL n 0), VIs (.slice (some ⟨gN, 0, none⟩) (pw n) cN), VIs (.pointer (some ⟨gN, 0, none⟩)), VIs (.int .i64 (nrmL P sq xs)), VSl w (pw n) (scaleL P (bladeL n 0) (nrmL P sq xs)), VIs (.bool false), VIs (.bool true), VIs (.bool true), VIs (.bool true), VIs undef, VIs undef, VIs undef, VIs undef, VIs (.bool true)] (fun w' => Blk w' w.heap.size 26 #[.int .i64 P, .slice A n c] ∧ Below w.heap.size w w' ∧ Below w2.heap.size w2 w') (by kernel_rfl) (by kernel_rfl) (fun _ _ h hb => ⟨h.1.below hb h.1.lt, h.2.1.trans (hb.mono h.2.1.size), h.2.2.trans (hb.mono h.2.2.size)⟩) (⟨k2.drew, hB2.drew, zG.drew⟩) (fun x => ?_)
 refine zS (fun w' hS hV K hK => ?_) ?_
 · obtain ⟨q0, q1⟩ := hS.1.two; have hcN : w'.cell? ⟨gN, 0, none⟩ = some (.int .i64 (nrmL P sq xs)) := (mkI_at (hN.below hS.2.2) (pw_pos n)).1; have hposI : 0 < pw n := pw_pos n; go_simp; exact zO hK
 refine zS (fun w' hS hV K hK => ?_) ?_
 · simp only [List.mem_cons, zJ, or_false, forall_eq, zH, zI, VIs, VSl, VAny] at hV; obtain e0 := hV; obtain ⟨q0, q1⟩ := hS.1.two; have hcN : w'.cell? ⟨gN, 0, none⟩ = some (.int .i64 (nrmL P sq xs)) := (mkI_at (hN.below hS.2.2) (pw_pos n)).1; have hposI : 0 < pw n := pw_pos n; go_simp; exact zO hK
 refine zS (fun w' hS hV K hK => ?_) ?_
 · have e1 := zQ hV 1; obtain ⟨q0, q1⟩ := hS.1.two; have hcN : w'.cell? ⟨gN, 0, none⟩ = some (.int .i64 (nrmL P sq xs)) := (mkI_at (hN.below hS.2.2) (pw_pos n)).1; have hposI : 0 < pw n := pw_pos n; go_simp; exact zO hK
 refine zS (fun w' hS hV K hK => ?_) ?_
 · have e2 := zQ hV 2; obtain ⟨q0, q1⟩ := hS.1.two; have hcN : w'.cell? ⟨gN, 0, none⟩ = some (.int .i64 (nrmL P sq xs)) := (mkI_at (hN.below hS.2.2) (pw_pos n)).1; have hposI : 0 < pw n := pw_pos n; go_simp; exact zO hK
 refine zS (fun w' hS hV K hK => ?_) ?_
 · have e3 := zQ hV 3; obtain ⟨q0, q1⟩ := hS.1.two; have hcN : w'.cell? ⟨gN, 0, none⟩ = some (.int .i64 (nrmL P sq xs)) := (mkI_at (hN.below hS.2.2) (pw_pos n)).1; have hposI : 0 < pw n := pw_pos n; go_simp; exact zO hK
 refine zS (fun w' hS hV K hK => ?_) ?_
 · have e4 := zQ hV 4; obtain ⟨q0, q1⟩ := hS.1.two; have hcN : w'.cell? ⟨gN, 0, none⟩ = some (.int .i64 (nrmL P sq xs)) := (mkI_at (hN.below hS.2.2) (pw_pos n)).1; have hposI : 0 < pw n := pw_pos n; go_simp; exact zO hK
 refine zS (fun w' hS hV K hK => ?_) ?_
 · have e4 := zQ hV 4; obtain ⟨q0, q1⟩ := hS.1.two; have hcN : w'.cell? ⟨gN, 0, none⟩ = some (.int .i64 (nrmL P sq xs)) := (mkI_at (hN.below hS.2.2) (pw_pos n)).1; have hposI : 0 < pw n := pw_pos n; go_simp; exact zO hK
 refine zS (fun w' hS hV K hK => ?_) ?_
 · have e4 := zQ hV 4; have e6 := zQ hV 6; obtain ⟨q0, q1⟩ := hS.1.two; have hcN : w'.cell? ⟨gN, 0, none⟩ = some (.int .i64 (nrmL P sq xs)) := (mkI_at (hN.below hS.2.2) (pw_pos n)).1; have hposI : 0 < pw n := pw_pos n; go_simp; exact zO hK
 refine zS (fun w' hS hV K hK => ?_) ?_
 · have e4 := zQ hV 4; obtain ⟨q0, q1⟩ := hS.1.two; have hcN : w'.cell? ⟨gN, 0, none⟩ = some (.int .i64 (nrmL P sq xs)) := (mkI_at (hN.below hS.2.2) (pw_pos n)).1; have hposI : 0 < pw n := pw_pos n; go_simp; exact zO hK
 refine zS (fun w' hS hV K hK => ?_) ?_
 · have e4 := zQ hV 4; have e8 := zQ hV 8; obtain ⟨q0, q1⟩ := hS.1.two; have hcN : w'.cell? ⟨gN, 0, none⟩ = some (.int .i64 (nrmL P sq xs)) := (mkI_at (hN.below hS.2.2) (pw_pos n)).1; have hposI : 0 < pw n := pw_pos n; go_simp; refine (l04One_any P A n c _ (by omega)).mono ?_; rintro e w1 ⟨A2, c2, rfl, hM⟩; exact hK.out _ _ _ rfl rfl ⟨_, _, rfl, hM.after hS.2.1⟩ hM.b
 refine zS (fun w' hS hV K hK => ?_) ?_
 · have e4 := zQ hV 4; obtain ⟨q0, q1⟩ := hS.1.two; have hcN : w'.cell? ⟨gN, 0, none⟩ = some (.int .i64 (nrmL P sq xs)) := (mkI_at (hN.below hS.2.2) (pw_pos n)).1; have hposI : 0 < pw n := pw_pos n; go_simp; exact zO hK
 refine zS (fun w' hS hV K hK => ?_) ?_
 · have e4 := zQ hV 4; have e10 := zQ hV 10; obtain ⟨q0, q1⟩ := hS.1.two; have hcN : w'.cell? ⟨gN, 0, none⟩ = some (.int .i64 (nrmL P sq xs)) := (mkI_at (hN.below hS.2.2) (pw_pos n)).1; have hposI : 0 < pw n := pw_pos n; go_simp; exact zO hK
 refine zS (fun w' hS hV K hK => ?_) ?_
 · have e4 := zQ hV 4; have e11 := zQ hV 11; obtain ⟨q0, q1⟩ := hS.1.two; have hcN : w'.cell? ⟨gN, 0, none⟩ = some (.int .i64 (nrmL P sq xs)) := (mkI_at (hN.below hS.2.2) (pw_pos n)).1; have hposI : 0 < pw n := pw_pos n; go_simp; exact zO hK
 refine zS (fun w' hS hV K hK => ?_) ?_
 · have e4 := zQ hV 4; have e7 := zQ hV 7; obtain ⟨A9, c9, e9, h9⟩ := hV 9 (by decide); have e12 := zQ hV 12; obtain ⟨q0, q1⟩ := hS.1.two; have hcN : w'.cell? ⟨gN, 0, none⟩ = some (.int .i64 (nrmL P sq xs)) := (mkI_at (hN.below hS.2.2) (pw_pos n)).1; have hposI : 0 < pw n := pw_pos n; go_simp; refine (l02Scale_any P _ (pw n) _ (nrmL P sq xs) (bladeL n 0) _ hp hp2 HPW h9.rd (bladeL_nums hp n 0) (by have := (nrmL_small hp sq xs); omega) (by have := (nrmL_small hp sq xs); omega)).mono ?_; rintro e w1 ⟨A2, c2, rfl, hM⟩; exact hK.out _ _ _ rfl rfl ⟨_, _, rfl, hM.after hS.2.1⟩ hM.b
 refine zS (fun w' hS hV K hK => ?_) ?_
 · have e4 := zQ hV 4; have e5 := zQ hV 5; obtain ⟨A13, c13, e13, h13⟩ := hV 13 (by decide); obtain ⟨q0, q1⟩ := hS.1.two; have hcN : w'.cell? ⟨gN, 0, none⟩ = some (.int .i64 (nrmL P sq xs)) := (mkI_at (hN.below hS.2.2) (pw_pos n)).1; have hposI : 0 < pw n := pw_pos n; go_simp; refine (l01Same_b _ _ _ _ _ _ _ _ _ (by omega) (by omega) (hN.rd.below hS.2.2) h13.rd HO.out).mono ?_; rintro e w1 ⟨rfl, j, rfl⟩; exact hK.out _ _ _ rfl rfl rfl (below_drewN zG _)
 refine zS (fun w' hS hV K hK => ?_) ?_
 · have e4 := zQ hV 4; have e14 := zQ hV 14; obtain ⟨q0, q1⟩ := hS.1.two; have hcN : w'.cell? ⟨gN, 0, none⟩ = some (.int .i64 (nrmL P sq xs)) := (mkI_at (hN.below hS.2.2) (pw_pos n)).1; have hposI : 0 < pw n := pw_pos n; go_simp; exact zO hK
 refine zS (fun w' hS hV K hK => ?_) ?_
 · have e4 := zQ hV 4; have e15 := zQ hV 15; obtain ⟨q0, q1⟩ := hS.1.two; have hcN : w'.cell? ⟨gN, 0, none⟩ = some (.int .i64 (nrmL P sq xs)) := (mkI_at (hN.below hS.2.2) (pw_pos n)).1; have hposI : 0 < pw n := pw_pos n; go_simp; exact zO hK
 refine zS (fun w' hS hV K hK => ?_) ?_
 · have e16 := zQ hV 16; obtain ⟨q0, q1⟩ := hS.1.two; have hcN : w'.cell? ⟨gN, 0, none⟩ = some (.int .i64 (nrmL P sq xs)) := (mkI_at (hN.below hS.2.2) (pw_pos n)).1; have hposI : 0 < pw n := pw_pos n; go_simp; exact zO hK
 refine zS (fun w' hS hV K hK => ?_) ?_
 · have e17 := zQ hV 17; obtain ⟨q0, q1⟩ := hS.1.two; have hcN : w'.cell? ⟨gN, 0, none⟩ = some (.int .i64 (nrmL P sq xs)) := (mkI_at (hN.below hS.2.2) (pw_pos n)).1; have hposI : 0 < pw n := pw_pos n; go_simp; exact zO hK
 refine zS (fun w' hS hV K hK => ?_) ?_
 · have e17 := zQ hV 17; obtain ⟨q0, q1⟩ := hS.1.two; have hcN : w'.cell? ⟨gN, 0, none⟩ = some (.int .i64 (nrmL P sq xs)) := (mkI_at (hN.below hS.2.2) (pw_pos n)).1; have hposI : 0 < pw n := pw_pos n; go_simp; exact zO hK
 refine zS (fun w' hS hV K hK => ?_) ?_
 · have e17 := zQ hV 17; have e18 := zQ hV 18; have e19 := zQ hV 19; obtain ⟨q0, q1⟩ := hS.1.two; have hcN : w'.cell? ⟨gN, 0, none⟩ = some (.int .i64 (nrmL P sq xs)) := (mkI_at (hN.below hS.2.2) (pw_pos n)).1; have hposI : 0 < pw n := pw_pos n; go_simp; exact zO hK
 refine zS (fun w' hS hV K hK => ?_) ?_
 · have e17 := zQ hV 17; have e20 := zQ hV 20; obtain ⟨q0, q1⟩ := hS.1.two; have hcN : w'.cell? ⟨gN, 0, none⟩ = some (.int .i64 (nrmL P sq xs)) := (mkI_at (hN.below hS.2.2) (pw_pos n)).1; have hposI : 0 < pw n := pw_pos n; go_simp; exact zO hK
 refine zS (fun w' hS hV K hK => ?_) ?_
 · have e17 := zQ hV 17; have e21 := zQ hV 21; obtain ⟨q0, q1⟩ := hS.1.two; have hcN : w'.cell? ⟨gN, 0, none⟩ = some (.int .i64 (nrmL P sq xs)) := (mkI_at (hN.below hS.2.2) (pw_pos n)).1; have hposI : 0 < pw n := pw_pos n; go_simp; exact zO hK
 refine fun w' hS hV => ?_
 have hV := fun i hi => hV i (List.mem_range.1 hi)
 simp only [List.range, List.range.loop, zL, zM, zH, zI, VIs, VSl, VAny] at hV
 obtain ⟨e0, e1, e2, e3, e4, e5, e6, e7, e8, ⟨A9, c9, e9, h9⟩, e10, e11, e12, ⟨A13, c13, e13, h13⟩, e14, e15, e16, e17, e18, e19, e20, e21, e22⟩ := hV
 simp only [e0, e1, e2, e3, e4, e5, e6, e7, e8, e9, e10, e11, e12, e13, e14, e15, e16, e17, e18, e19, e20, e21, e22]
 clear e0 e1 e2 e3 e4 e5 e6 e7 e8 e9 e10 e11 e12 e13 e14 e15 e16 e17 e18 e19 e20 e21 e22
 refine wpAny_done (by kernel_rfl) ?_ _
 go_wp2
 go_ret
 exact ⟨ret_bool (by unfold versB; rw [H1.out, H2.out]; rfl), hS.2.1⟩
set_option maxHeartbeats 3200000 in
set_option maxRecDepth 8000 in
theorem l07Is_C (P : Int) (A : Option Addr) (n c : Nat) (sq : List Int) (X : Option Addr) (cx : Nat) (xs : List Int) (w : World) (hp : 2 ≤ P) (hp2 : P ≤ 13) (hn : n ≤ 6) (ha : Rd w A n (ints sq)) (hs : NumsL P sq) (hx : Rd w X (pw n) (ints xs)) (hxs : NumsL P xs) (_hcx : pw n ≤ cx) (_HP : isP P = true) (h1 : ¬ nrmL P sq xs = 0) (h2 : onlyL (mulL P sq xs (revL P xs)) 0 = true) (h3 : mixB (gradesL xs) = true) :
    Calls Tryz.prog 204 #[.agg #[.int .i64 P, .slice A n c], .slice X (pw n) cx] w fun e w' => e = .returned (.bool (versB P sq n xs)) ∧ Below w.heap.size w w' := by
 have hB0 : Below w.heap.size w (w.alloc (.cells #[.int .i64 P, .slice A n c] 26)) := zG.alloc (Nat.le_refl _) _
 have k0 : Blk (w.alloc (.cells #[.int .i64 P, .slice A n c] 26)) w.heap.size 26 #[.int .i64 P, .slice A n c] := Blk.new _ _ _
 have HPW : pw n ≤ 65536 := Nat.le_trans (pw_le (show n ≤ 10 by omega)) (by decide)
 have HPW64 : pw n ≤ 64 := pw_le hn
 have HNN := mulL_nums (show 0 < P by omega) sq xs (revL P xs)
 have HSC : Hid (decide (mulL P sq xs (revL P xs) = scaleL P (bladeL n 0) (nrmL P sq xs)) = onlyL (mulL P sq xs (revL P xs)) 0) := Lib.hid (onlyL_scalar hp hn (by rw [mulL_len, hx.lenI]) HNN)
 have HEV := Lib.hid (evnV_neg (gs := gradesL xs) fun g hg => (gradesL_range xs g hg).1)
 have b1 : (nrmL P sq xs == 0) = false := by simp [h1]
 have H1 := Lib.hid b1
 have H2 := Lib.hid h2
 have H3 := Lib.hid h3
 have HO : Hid (decide (mulL P sq xs (revL P xs) = scaleL P (bladeL n 0) (nrmL P sq xs)) = true) := Lib.hid (HSC.out.trans h2)
 have hev : decide (evnV (gradesL xs) < 0) = true := HEV.out.trans h3
 clear h1 h2 h3
 go_enter Tryz.func204, Tryz.ntmps204
 go_wp2_with fail
 refine (l04Reverse_any P A n c X (pw n) cx xs _ hp hp2 HPW64 (hx.below hB0) hxs).mono ?_
 rintro e w1 ⟨Bk, cB, rfl, hBk⟩
 have hB1 := hB0.trans (hBk.b.mono (by simp))
 have k1 := k0.below hBk.b k0.lt
 obtain ⟨q0, q1⟩ := k1.two
 clear k0 hB0
 go_wp2_with fail
 refine (l04Times_any P A n c sq X cx xs Bk cB _ _ hp hp2 hn (ha.below hB1) hs (hx.below hB1) hxs hBk.rd (sgnL_nums (by omega) revT hxs)).mono ?_
 rintro e w2 ⟨N, cN, rfl, hN⟩
 have hB2 := hB1.trans (hN.b.mono hB1.size)
 have k2 := k1.below hN.b k1.lt
 have hBk2 := hBk.below hN.b
 rcases hN.2.form with ⟨_, hz⟩ | ⟨gN, hgN, _, _⟩
 · exact absurd hz (by have := pw_pos n; omega)
 subst hgN
 clear q0 q1 k1 hB1 hBk
 go_wp2
 refine wp_obs 23 [[],[0],[0,1],[0,1,2],[0,1,2,3],[0,1,2,3,4],[0,1,2,3,4],[0,1,2,3,4,6],[0,1,2,3,4],[0,1,2,3,4,8],[0,1,2,3,4],[0,1,2,3,4,10],[0,1,2,3,4,10,11],[0,1,2,3,4,6,7,8,9,10,11,12],[0,1,2,3,4,5,6,7,8,9,10,11,12,13],[0,1,2,3,4,5,6,7,8,9,10,11,12,13,14],[0,1,2,3,4,5,6,7,8,9,10,11,12,13,14,15],[0,1,2,3,4,5,6,7,8,9,10,11,12,13,14,15,16],[0,1,2,3,4,5,6,7,8,9,10,11,12,13,14,15,16,17],[0,1,2,3,4,5,6,7,8,9,10,11,12,13,14,15,16,17],[0,1,2,3,4,5,6,7,8,9,10,11,12,13,14,15,16,17,18,19],[0,1,2,3,4,5,6,7,8,9,10,11,12,13,14,15,16,17,18,19,20],[0,1,2,3,4,5,6,7,8,9,10,11,12,13,14,15,16,17,18,19,20,21]] [VIs (.slice (some ⟨gN, 0, none⟩) (pw n) cN), VIs (.pointer (some ⟨gN, 0, none⟩)), VIs (.int .i64 (nrmL P sq xs)), VIs (.bool false), VIs (.bool false), VIs (.slice (some ⟨gN, 0, none⟩) (pw n) cN), VIs (.pointer (some ⟨w.heap.size, 0, none⟩)), VIs (.int .i64 P), VIs (.agg #[.int .i64 P, .slice A n c]), VSl w (pw n) (bladeL n 0), VIs (.slice (some ⟨gN, 0, none⟩) (pw n) cN), VIs (.pointer (some ⟨gN, 0, none⟩)), VIs (.int .i64 (nrmL P sq xs)), VSl w (pw n) (scaleL P (bladeL n 0) (nrmL P sq xs)), VIs (.bool true), VIs (.bool false), VIs (.bool false), VIs (.bool false), VIs (.agg #[.int .i64 P, .slice A n c]), VIs (.slice X (pw n) cx), VIs (.int .i64 (evnV (gradesL xs))), VIs (.bool true), VIs (.bool true)] (fun w' => Blk w' w.heap.size 26 #[.int .i64 P, .slice A n c] ∧ Below w.heap.size w w' ∧ Below w2.heap.size w2 w') (by kernel_rfl) (by kernel_rfl) (fun _ _ h hb => ⟨h.1.below hb h.1.lt, h.2.1.trans (hb.mono h.2.1.size), h.2.2.trans (hb.mono h.2.2.size)⟩) (⟨k2.drew, hB2.drew, zG.drew⟩) (fun x => ?_)
 refine zS (fun w' hS hV K hK => ?_) ?_
 · obtain ⟨q0, q1⟩ := hS.1.two; have hcN : w'.cell? ⟨gN, 0, none⟩ = some (.int .i64 (nrmL P sq xs)) := (mkI_at (hN.below hS.2.2) (pw_pos n)).1; have hposI : 0 < pw n := pw_pos n; go_simp; exact zO hK
 refine zS (fun w' hS hV K hK => ?_) ?_
 · simp only [List.mem_cons, zJ, or_false, forall_eq, zH, zI, VIs, VSl, VAny] at hV; obtain e0 := hV; obtain ⟨q0, q1⟩ := hS.1.two; have hcN : w'.cell? ⟨gN, 0, none⟩ = some (.int .i64 (nrmL P sq xs)) := (mkI_at (hN.below hS.2.2) (pw_pos n)).1; have hposI : 0 < pw n := pw_pos n; go_simp; exact zO hK
 refine zS (fun w' hS hV K hK => ?_) ?_
 · have e1 := zQ hV 1; obtain ⟨q0, q1⟩ := hS.1.two; have hcN : w'.cell? ⟨gN, 0, none⟩ = some (.int .i64 (nrmL P sq xs)) := (mkI_at (hN.below hS.2.2) (pw_pos n)).1; have hposI : 0 < pw n := pw_pos n; go_simp; exact zO hK
 refine zS (fun w' hS hV K hK => ?_) ?_
 · have e2 := zQ hV 2; obtain ⟨q0, q1⟩ := hS.1.two; have hcN : w'.cell? ⟨gN, 0, none⟩ = some (.int .i64 (nrmL P sq xs)) := (mkI_at (hN.below hS.2.2) (pw_pos n)).1; have hposI : 0 < pw n := pw_pos n; go_simp; exact zO hK
 refine zS (fun w' hS hV K hK => ?_) ?_
 · have e3 := zQ hV 3; obtain ⟨q0, q1⟩ := hS.1.two; have hcN : w'.cell? ⟨gN, 0, none⟩ = some (.int .i64 (nrmL P sq xs)) := (mkI_at (hN.below hS.2.2) (pw_pos n)).1; have hposI : 0 < pw n := pw_pos n; go_simp; exact zO hK
 refine zS (fun w' hS hV K hK => ?_) ?_
 · have e4 := zQ hV 4; obtain ⟨q0, q1⟩ := hS.1.two; have hcN : w'.cell? ⟨gN, 0, none⟩ = some (.int .i64 (nrmL P sq xs)) := (mkI_at (hN.below hS.2.2) (pw_pos n)).1; have hposI : 0 < pw n := pw_pos n; go_simp; exact zO hK
 refine zS (fun w' hS hV K hK => ?_) ?_
 · have e4 := zQ hV 4; obtain ⟨q0, q1⟩ := hS.1.two; have hcN : w'.cell? ⟨gN, 0, none⟩ = some (.int .i64 (nrmL P sq xs)) := (mkI_at (hN.below hS.2.2) (pw_pos n)).1; have hposI : 0 < pw n := pw_pos n; go_simp; exact zO hK
 refine zS (fun w' hS hV K hK => ?_) ?_
 · have e4 := zQ hV 4; have e6 := zQ hV 6; obtain ⟨q0, q1⟩ := hS.1.two; have hcN : w'.cell? ⟨gN, 0, none⟩ = some (.int .i64 (nrmL P sq xs)) := (mkI_at (hN.below hS.2.2) (pw_pos n)).1; have hposI : 0 < pw n := pw_pos n; go_simp; exact zO hK
 refine zS (fun w' hS hV K hK => ?_) ?_
 · have e4 := zQ hV 4; obtain ⟨q0, q1⟩ := hS.1.two; have hcN : w'.cell? ⟨gN, 0, none⟩ = some (.int .i64 (nrmL P sq xs)) := (mkI_at (hN.below hS.2.2) (pw_pos n)).1; have hposI : 0 < pw n := pw_pos n; go_simp; exact zO hK
 refine zS (fun w' hS hV K hK => ?_) ?_
 · have e4 := zQ hV 4; have e8 := zQ hV 8; obtain ⟨q0, q1⟩ := hS.1.two; have hcN : w'.cell? ⟨gN, 0, none⟩ = some (.int .i64 (nrmL P sq xs)) := (mkI_at (hN.below hS.2.2) (pw_pos n)).1; have hposI : 0 < pw n := pw_pos n; go_simp; refine (l04One_any P A n c _ (by omega)).mono ?_; rintro e w1 ⟨A2, c2, rfl, hM⟩; exact hK.out _ _ _ rfl rfl ⟨_, _, rfl, hM.after hS.2.1⟩ hM.b
 refine zS (fun w' hS hV K hK => ?_) ?_
 · have e4 := zQ hV 4; obtain ⟨q0, q1⟩ := hS.1.two; have hcN : w'.cell? ⟨gN, 0, none⟩ = some (.int .i64 (nrmL P sq xs)) := (mkI_at (hN.below hS.2.2) (pw_pos n)).1; have hposI : 0 < pw n := pw_pos n; go_simp; exact zO hK
 refine zS (fun w' hS hV K hK => ?_) ?_
 · have e4 := zQ hV 4; have e10 := zQ hV 10; obtain ⟨q0, q1⟩ := hS.1.two; have hcN : w'.cell? ⟨gN, 0, none⟩ = some (.int .i64 (nrmL P sq xs)) := (mkI_at (hN.below hS.2.2) (pw_pos n)).1; have hposI : 0 < pw n := pw_pos n; go_simp; exact zO hK
 refine zS (fun w' hS hV K hK => ?_) ?_
 · have e4 := zQ hV 4; have e11 := zQ hV 11; obtain ⟨q0, q1⟩ := hS.1.two; have hcN : w'.cell? ⟨gN, 0, none⟩ = some (.int .i64 (nrmL P sq xs)) := (mkI_at (hN.below hS.2.2) (pw_pos n)).1; have hposI : 0 < pw n := pw_pos n; go_simp; exact zO hK
 refine zS (fun w' hS hV K hK => ?_) ?_
 · have e4 := zQ hV 4; have e7 := zQ hV 7; obtain ⟨A9, c9, e9, h9⟩ := hV 9 (by decide); have e12 := zQ hV 12; obtain ⟨q0, q1⟩ := hS.1.two; have hcN : w'.cell? ⟨gN, 0, none⟩ = some (.int .i64 (nrmL P sq xs)) := (mkI_at (hN.below hS.2.2) (pw_pos n)).1; have hposI : 0 < pw n := pw_pos n; go_simp; refine (l02Scale_any P _ (pw n) _ (nrmL P sq xs) (bladeL n 0) _ hp hp2 HPW h9.rd (bladeL_nums hp n 0) (by have := (nrmL_small hp sq xs); omega) (by have := (nrmL_small hp sq xs); omega)).mono ?_; rintro e w1 ⟨A2, c2, rfl, hM⟩; exact hK.out _ _ _ rfl rfl ⟨_, _, rfl, hM.after hS.2.1⟩ hM.b
 refine zS (fun w' hS hV K hK => ?_) ?_
 · have e4 := zQ hV 4; have e5 := zQ hV 5; obtain ⟨A13, c13, e13, h13⟩ := hV 13 (by decide); obtain ⟨q0, q1⟩ := hS.1.two; have hcN : w'.cell? ⟨gN, 0, none⟩ = some (.int .i64 (nrmL P sq xs)) := (mkI_at (hN.below hS.2.2) (pw_pos n)).1; have hposI : 0 < pw n := pw_pos n; go_simp; refine (l01Same_b _ _ _ _ _ _ _ _ _ (by omega) (by omega) (hN.rd.below hS.2.2) h13.rd HO.out).mono ?_; rintro e w1 ⟨rfl, j, rfl⟩; exact hK.out _ _ _ rfl rfl rfl (below_drewN zG _)
 refine zS (fun w' hS hV K hK => ?_) ?_
 · have e4 := zQ hV 4; have e14 := zQ hV 14; obtain ⟨q0, q1⟩ := hS.1.two; have hcN : w'.cell? ⟨gN, 0, none⟩ = some (.int .i64 (nrmL P sq xs)) := (mkI_at (hN.below hS.2.2) (pw_pos n)).1; have hposI : 0 < pw n := pw_pos n; go_simp; exact zO hK
 refine zS (fun w' hS hV K hK => ?_) ?_
 · have e4 := zQ hV 4; have e15 := zQ hV 15; obtain ⟨q0, q1⟩ := hS.1.two; have hcN : w'.cell? ⟨gN, 0, none⟩ = some (.int .i64 (nrmL P sq xs)) := (mkI_at (hN.below hS.2.2) (pw_pos n)).1; have hposI : 0 < pw n := pw_pos n; go_simp; exact zO hK
 refine zS (fun w' hS hV K hK => ?_) ?_
 · have e16 := zQ hV 16; obtain ⟨q0, q1⟩ := hS.1.two; have hcN : w'.cell? ⟨gN, 0, none⟩ = some (.int .i64 (nrmL P sq xs)) := (mkI_at (hN.below hS.2.2) (pw_pos n)).1; have hposI : 0 < pw n := pw_pos n; go_simp; exact zO hK
 refine zS (fun w' hS hV K hK => ?_) ?_
 · have e17 := zQ hV 17; obtain ⟨q0, q1⟩ := hS.1.two; have hcN : w'.cell? ⟨gN, 0, none⟩ = some (.int .i64 (nrmL P sq xs)) := (mkI_at (hN.below hS.2.2) (pw_pos n)).1; have hposI : 0 < pw n := pw_pos n; go_simp; exact zO hK
 refine zS (fun w' hS hV K hK => ?_) ?_
 · have e17 := zQ hV 17; obtain ⟨q0, q1⟩ := hS.1.two; have hcN : w'.cell? ⟨gN, 0, none⟩ = some (.int .i64 (nrmL P sq xs)) := (mkI_at (hN.below hS.2.2) (pw_pos n)).1; have hposI : 0 < pw n := pw_pos n; go_simp; exact zO hK
 refine zS (fun w' hS hV K hK => ?_) ?_
 · have e17 := zQ hV 17; have e18 := zQ hV 18; have e19 := zQ hV 19; obtain ⟨q0, q1⟩ := hS.1.two; have hcN : w'.cell? ⟨gN, 0, none⟩ = some (.int .i64 (nrmL P sq xs)) := (mkI_at (hN.below hS.2.2) (pw_pos n)).1; have hposI : 0 < pw n := pw_pos n; go_simp; refine (l07Even_any P A n c _ _ xs _ hn (hx.below hS.2.1)).mono ?_; rintro e w1 ⟨rfl, hb⟩; exact hK.out _ _ _ rfl rfl rfl hb
 refine zS (fun w' hS hV K hK => ?_) ?_
 · have e17 := zQ hV 17; have e20 := zQ hV 20; obtain ⟨q0, q1⟩ := hS.1.two; have hcN : w'.cell? ⟨gN, 0, none⟩ = some (.int .i64 (nrmL P sq xs)) := (mkI_at (hN.below hS.2.2) (pw_pos n)).1; have hposI : 0 < pw n := pw_pos n; go_simp; exact zO hK
 refine zS (fun w' hS hV K hK => ?_) ?_
 · have e17 := zQ hV 17; have e21 := zQ hV 21; obtain ⟨q0, q1⟩ := hS.1.two; have hcN : w'.cell? ⟨gN, 0, none⟩ = some (.int .i64 (nrmL P sq xs)) := (mkI_at (hN.below hS.2.2) (pw_pos n)).1; have hposI : 0 < pw n := pw_pos n; go_simp; exact zO hK
 refine fun w' hS hV => ?_
 have hV := fun i hi => hV i (List.mem_range.1 hi)
 simp only [List.range, List.range.loop, zL, zM, zH, zI, VIs, VSl, VAny] at hV
 obtain ⟨e0, e1, e2, e3, e4, e5, e6, e7, e8, ⟨A9, c9, e9, h9⟩, e10, e11, e12, ⟨A13, c13, e13, h13⟩, e14, e15, e16, e17, e18, e19, e20, e21, e22⟩ := hV
 simp only [e0, e1, e2, e3, e4, e5, e6, e7, e8, e9, e10, e11, e12, e13, e14, e15, e16, e17, e18, e19, e20, e21, e22]
 clear e0 e1 e2 e3 e4 e5 e6 e7 e8 e9 e10 e11 e12 e13 e14 e15 e16 e17 e18 e19 e20 e21 e22
 refine wpAny_done (by kernel_rfl) ?_ _
 go_wp2
 go_ret
 exact ⟨ret_bool (by unfold versB; rw [H1.out, H2.out, H3.out]; rfl), hS.2.1⟩
set_option maxHeartbeats 3200000 in
set_option maxRecDepth 8000 in
theorem l07Is_D (P : Int) (A : Option Addr) (n c : Nat) (sq : List Int) (X : Option Addr) (cx : Nat) (xs : List Int) (w : World) (hp : 2 ≤ P) (hp2 : P ≤ 13) (hn : n ≤ 6) (ha : Rd w A n (ints sq)) (hs : NumsL P sq) (hx : Rd w X (pw n) (ints xs)) (hxs : NumsL P xs) (hcx : pw n ≤ cx) (_HP : isP P = true) (h1 : ¬ nrmL P sq xs = 0) (h2 : onlyL (mulL P sq xs (revL P xs)) 0 = true) (h3 : mixB (gradesL xs) = false) :
    Calls Tryz.prog 204 #[.agg #[.int .i64 P, .slice A n c], .slice X (pw n) cx] w fun e w' => e = .returned (.bool (versB P sq n xs)) ∧ Below w.heap.size w w' := by
 have hB0 : Below w.heap.size w (w.alloc (.cells #[.int .i64 P, .slice A n c] 26)) := zG.alloc (Nat.le_refl _) _
 have k0 : Blk (w.alloc (.cells #[.int .i64 P, .slice A n c] 26)) w.heap.size 26 #[.int .i64 P, .slice A n c] := Blk.new _ _ _
 have HPW : pw n ≤ 65536 := Nat.le_trans (pw_le (show n ≤ 10 by omega)) (by decide)
 have HPW64 : pw n ≤ 64 := pw_le hn
 have HNN := mulL_nums (show 0 < P by omega) sq xs (revL P xs)
 have HSC : Hid (decide (mulL P sq xs (revL P xs) = scaleL P (bladeL n 0) (nrmL P sq xs)) = onlyL (mulL P sq xs (revL P xs)) 0) := Lib.hid (onlyL_scalar hp hn (by rw [mulL_len, hx.lenI]) HNN)
 have HEV := Lib.hid (evnV_neg (gs := gradesL xs) fun g hg => (gradesL_range xs g hg).1)
 have b1 : (nrmL P sq xs == 0) = false := by simp [h1]
 have H1 := Lib.hid b1
 have H2 := Lib.hid h2
 have H3 := Lib.hid h3
 have HO : Hid (decide (mulL P sq xs (revL P xs) = scaleL P (bladeL n 0) (nrmL P sq xs)) = true) := Lib.hid (HSC.out.trans h2)
 have hev : decide (evnV (gradesL xs) < 0) = false := HEV.out.trans h3
 clear h1 h2 h3
 go_enter Tryz.func204, Tryz.ntmps204
 go_wp2_with fail
 refine (l04Reverse_any P A n c X (pw n) cx xs _ hp hp2 HPW64 (hx.below hB0) hxs).mono ?_
 rintro e w1 ⟨Bk, cB, rfl, hBk⟩
 have hB1 := hB0.trans (hBk.b.mono (by simp))
 have k1 := k0.below hBk.b k0.lt
 obtain ⟨q0, q1⟩ := k1.two
 clear k0 hB0
 go_wp2_with fail
 refine (l04Times_any P A n c sq X cx xs Bk cB _ _ hp hp2 hn (ha.below hB1) hs (hx.below hB1) hxs hBk.rd (sgnL_nums (by omega) revT hxs)).mono ?_
 rintro e w2 ⟨N, cN, rfl, hN⟩
 have hB2 := hB1.trans (hN.b.mono hB1.size)
 have k2 := k1.below hN.b k1.lt
 have hBk2 := hBk.below hN.b
 rcases hN.2.form with ⟨_, hz⟩ | ⟨gN, hgN, _, _⟩
 · exact absurd hz (by have := pw_pos n; omega)
 subst hgN
 clear q0 q1 k1 hB1 hBk
 go_wp2
 refine wp_obs 23 [[],[0],[0,1],[0,1,2],[0,1,2,3],[0,1,2,3,4],[0,1,2,3,4],[0,1,2,3,4,6],[0,1,2,3,4],[0,1,2,3,4,8],[0,1,2,3,4],[0,1,2,3,4,10],[0,1,2,3,4,10,11],[0,1,2,3,4,6,7,8,9,10,11,12],[0,1,2,3,4,5,6,7,8,9,10,11,12,13],[0,1,2,3,4,5,6,7,8,9,10,11,12,13,14],[0,1,2,3,4,5,6,7,8,9,10,11,12,13,14,15],[0,1,2,3,4,5,6,7,8,9,10,11,12,13,14,15,16],[0,1,2,3,4,5,6,7,8,9,10,11,12,13,14,15,16,17],[0,1,2,3,4,5,6,7,8,9,10,11,12,13,14,15,16,17],[0,1,2,3,4,5,6,7,8,9,10,11,12,13,14,15,16,17,18,19],[0,1,2,3,4,5,6,7,8,9,10,11,12,13,14,15,16,17,18,19,20],[0,1,2,3,4,5,6,7,8,9,10,11,12,13,14,15,16,17,18,19,20,21]] [VIs (.slice (some ⟨gN, 0, none⟩) (pw n) cN), VIs (.pointer (some ⟨gN, 0, none⟩)), VIs (.int .i64 (nrmL P sq xs)), VIs (.bool false), VIs (.bool false), VIs (.slice (some ⟨gN, 0, none⟩) (pw n) cN), VIs (.pointer (some ⟨w.heap.size, 0, none⟩)), VIs (.int .i64 P), VIs (.agg #[.int .i64 P, .slice A n c]), VSl w (pw n) (bladeL n 0), VIs (.slice (some ⟨gN, 0, none⟩) (pw n) cN), VIs (.pointer (some ⟨gN, 0, none⟩)), VIs (.int .i64 (nrmL P sq xs)), VSl w (pw n) (scaleL P (bladeL n 0) (nrmL P sq xs)), VIs (.bool true), VIs (.bool false), VIs (.bool false), VIs (.bool false), VIs (.agg #[.int .i64 P, .slice A n c]), VIs (.slice X (pw n) cx), VIs (.int .i64 (evnV (gradesL xs))), VIs (.bool false), VIs (.bool false)] (fun w' => Blk w' w.heap.size 26 #[.int .i64 P, .slice A n c] ∧ Below w.heap.size w w' ∧ Below w2.heap.size w2 w') (by kernel_rfl) (by kernel_rfl) (fun _ _ h hb => ⟨h.1.below hb h.1.lt, h.2.1.trans (hb.mono h.2.1.size), h.2.2.trans (hb.mono h.2.2.size)⟩) (⟨k2.drew, hB2.drew, zG.drew⟩) (fun x => ?_)
 refine zS (fun w' hS hV K hK => ?_) ?_
 · obtain ⟨q0, q1⟩ := hS.1.two; have hcN : w'.cell? ⟨gN, 0, none⟩ = some (.int .i64 (nrmL P sq xs)) := (mkI_at (hN.below hS.2.2) (pw_pos n)).1; have hposI : 0 < pw n := pw_pos n; go_simp; exact zO hK
 refine zS (fun w' hS hV K hK => ?_) ?_
 · simp only [List.mem_cons, zJ, or_false, forall_eq, zH, zI, VIs, VSl, VAny] at hV; obtain e0 := hV; obtain ⟨q0, q1⟩ := hS.1.two; have hcN : w'.cell? ⟨gN, 0, none⟩ = some (.int .i64 (nrmL P sq xs)) := (mkI_at (hN.below hS.2.2) (pw_pos n)).1; have hposI : 0 < pw n := pw_pos n; go_simp; exact zO hK
 refine zS (fun w' hS hV K hK => ?_) ?_
 · have e1 := zQ hV 1; obtain ⟨q0, q1⟩ := hS.1.two; have hcN : w'.cell? ⟨gN, 0, none⟩ = some (.int .i64 (nrmL P sq xs)) := (mkI_at (hN.below hS.2.2) (pw_pos n)).1; have hposI : 0 < pw n := pw_pos n; go_simp; exact zO hK
 refine zS (fun w' hS hV K hK => ?_) ?_
 · have e2 := zQ hV 2; obtain ⟨q0, q1⟩ := hS.1.two; have hcN : w'.cell? ⟨gN, 0, none⟩ = some (.int .i64 (nrmL P sq xs)) := (mkI_at (hN.below hS.2.2) (pw_pos n)).1; have hposI : 0 < pw n := pw_pos n; go_simp; exact zO hK
 refine zS (fun w' hS hV K hK => ?_) ?_
 · have e3 := zQ hV 3; obtain ⟨q0, q1⟩ := hS.1.two; have hcN : w'.cell? ⟨gN, 0, none⟩ = some (.int .i64 (nrmL P sq xs)) := (mkI_at (hN.below hS.2.2) (pw_pos n)).1; have hposI : 0 < pw n := pw_pos n; go_simp; exact zO hK
 refine zS (fun w' hS hV K hK => ?_) ?_
 · have e4 := zQ hV 4; obtain ⟨q0, q1⟩ := hS.1.two; have hcN : w'.cell? ⟨gN, 0, none⟩ = some (.int .i64 (nrmL P sq xs)) := (mkI_at (hN.below hS.2.2) (pw_pos n)).1; have hposI : 0 < pw n := pw_pos n; go_simp; exact zO hK
 refine zS (fun w' hS hV K hK => ?_) ?_
 · have e4 := zQ hV 4; obtain ⟨q0, q1⟩ := hS.1.two; have hcN : w'.cell? ⟨gN, 0, none⟩ = some (.int .i64 (nrmL P sq xs)) := (mkI_at (hN.below hS.2.2) (pw_pos n)).1; have hposI : 0 < pw n := pw_pos n; go_simp; exact zO hK
 refine zS (fun w' hS hV K hK => ?_) ?_
 · have e4 := zQ hV 4; have e6 := zQ hV 6; obtain ⟨q0, q1⟩ := hS.1.two; have hcN : w'.cell? ⟨gN, 0, none⟩ = some (.int .i64 (nrmL P sq xs)) := (mkI_at (hN.below hS.2.2) (pw_pos n)).1; have hposI : 0 < pw n := pw_pos n; go_simp; exact zO hK
 refine zS (fun w' hS hV K hK => ?_) ?_
 · have e4 := zQ hV 4; obtain ⟨q0, q1⟩ := hS.1.two; have hcN : w'.cell? ⟨gN, 0, none⟩ = some (.int .i64 (nrmL P sq xs)) := (mkI_at (hN.below hS.2.2) (pw_pos n)).1; have hposI : 0 < pw n := pw_pos n; go_simp; exact zO hK
 refine zS (fun w' hS hV K hK => ?_) ?_
 · have e4 := zQ hV 4; have e8 := zQ hV 8; obtain ⟨q0, q1⟩ := hS.1.two; have hcN : w'.cell? ⟨gN, 0, none⟩ = some (.int .i64 (nrmL P sq xs)) := (mkI_at (hN.below hS.2.2) (pw_pos n)).1; have hposI : 0 < pw n := pw_pos n; go_simp; refine (l04One_any P A n c _ (by omega)).mono ?_; rintro e w1 ⟨A2, c2, rfl, hM⟩; exact hK.out _ _ _ rfl rfl ⟨_, _, rfl, hM.after hS.2.1⟩ hM.b
 refine zS (fun w' hS hV K hK => ?_) ?_
 · have e4 := zQ hV 4; obtain ⟨q0, q1⟩ := hS.1.two; have hcN : w'.cell? ⟨gN, 0, none⟩ = some (.int .i64 (nrmL P sq xs)) := (mkI_at (hN.below hS.2.2) (pw_pos n)).1; have hposI : 0 < pw n := pw_pos n; go_simp; exact zO hK
 refine zS (fun w' hS hV K hK => ?_) ?_
 · have e4 := zQ hV 4; have e10 := zQ hV 10; obtain ⟨q0, q1⟩ := hS.1.two; have hcN : w'.cell? ⟨gN, 0, none⟩ = some (.int .i64 (nrmL P sq xs)) := (mkI_at (hN.below hS.2.2) (pw_pos n)).1; have hposI : 0 < pw n := pw_pos n; go_simp; exact zO hK
 refine zS (fun w' hS hV K hK => ?_) ?_
 · have e4 := zQ hV 4; have e11 := zQ hV 11; obtain ⟨q0, q1⟩ := hS.1.two; have hcN : w'.cell? ⟨gN, 0, none⟩ = some (.int .i64 (nrmL P sq xs)) := (mkI_at (hN.below hS.2.2) (pw_pos n)).1; have hposI : 0 < pw n := pw_pos n; go_simp; exact zO hK
 refine zS (fun w' hS hV K hK => ?_) ?_
 · have e4 := zQ hV 4; have e7 := zQ hV 7; obtain ⟨A9, c9, e9, h9⟩ := hV 9 (by decide); have e12 := zQ hV 12; obtain ⟨q0, q1⟩ := hS.1.two; have hcN : w'.cell? ⟨gN, 0, none⟩ = some (.int .i64 (nrmL P sq xs)) := (mkI_at (hN.below hS.2.2) (pw_pos n)).1; have hposI : 0 < pw n := pw_pos n; go_simp; refine (l02Scale_any P _ (pw n) _ (nrmL P sq xs) (bladeL n 0) _ hp hp2 HPW h9.rd (bladeL_nums hp n 0) (by have := (nrmL_small hp sq xs); omega) (by have := (nrmL_small hp sq xs); omega)).mono ?_; rintro e w1 ⟨A2, c2, rfl, hM⟩; exact hK.out _ _ _ rfl rfl ⟨_, _, rfl, hM.after hS.2.1⟩ hM.b
 refine zS (fun w' hS hV K hK => ?_) ?_
 · have e4 := zQ hV 4; have e5 := zQ hV 5; obtain ⟨A13, c13, e13, h13⟩ := hV 13 (by decide); obtain ⟨q0, q1⟩ := hS.1.two; have hcN : w'.cell? ⟨gN, 0, none⟩ = some (.int .i64 (nrmL P sq xs)) := (mkI_at (hN.below hS.2.2) (pw_pos n)).1; have hposI : 0 < pw n := pw_pos n; go_simp; refine (l01Same_b _ _ _ _ _ _ _ _ _ (by omega) (by omega) (hN.rd.below hS.2.2) h13.rd HO.out).mono ?_; rintro e w1 ⟨rfl, j, rfl⟩; exact hK.out _ _ _ rfl rfl rfl (below_drewN zG _)
 refine zS (fun w' hS hV K hK => ?_) ?_
 · have e4 := zQ hV 4; have e14 := zQ hV 14; obtain ⟨q0, q1⟩ := hS.1.two; have hcN : w'.cell? ⟨gN, 0, none⟩ = some (.int .i64 (nrmL P sq xs)) := (mkI_at (hN.below hS.2.2) (pw_pos n)).1; have hposI : 0 < pw n := pw_pos n; go_simp; exact zO hK
 refine zS (fun w' hS hV K hK => ?_) ?_
 · have e4 := zQ hV 4; have e15 := zQ hV 15; obtain ⟨q0, q1⟩ := hS.1.two; have hcN : w'.cell? ⟨gN, 0, none⟩ = some (.int .i64 (nrmL P sq xs)) := (mkI_at (hN.below hS.2.2) (pw_pos n)).1; have hposI : 0 < pw n := pw_pos n; go_simp; exact zO hK
 refine zS (fun w' hS hV K hK => ?_) ?_
 · have e16 := zQ hV 16; obtain ⟨q0, q1⟩ := hS.1.two; have hcN : w'.cell? ⟨gN, 0, none⟩ = some (.int .i64 (nrmL P sq xs)) := (mkI_at (hN.below hS.2.2) (pw_pos n)).1; have hposI : 0 < pw n := pw_pos n; go_simp; exact zO hK
 refine zS (fun w' hS hV K hK => ?_) ?_
 · have e17 := zQ hV 17; obtain ⟨q0, q1⟩ := hS.1.two; have hcN : w'.cell? ⟨gN, 0, none⟩ = some (.int .i64 (nrmL P sq xs)) := (mkI_at (hN.below hS.2.2) (pw_pos n)).1; have hposI : 0 < pw n := pw_pos n; go_simp; exact zO hK
 refine zS (fun w' hS hV K hK => ?_) ?_
 · have e17 := zQ hV 17; obtain ⟨q0, q1⟩ := hS.1.two; have hcN : w'.cell? ⟨gN, 0, none⟩ = some (.int .i64 (nrmL P sq xs)) := (mkI_at (hN.below hS.2.2) (pw_pos n)).1; have hposI : 0 < pw n := pw_pos n; go_simp; exact zO hK
 refine zS (fun w' hS hV K hK => ?_) ?_
 · have e17 := zQ hV 17; have e18 := zQ hV 18; have e19 := zQ hV 19; obtain ⟨q0, q1⟩ := hS.1.two; have hcN : w'.cell? ⟨gN, 0, none⟩ = some (.int .i64 (nrmL P sq xs)) := (mkI_at (hN.below hS.2.2) (pw_pos n)).1; have hposI : 0 < pw n := pw_pos n; go_simp; refine (l07Even_any P A n c _ _ xs _ hn (hx.below hS.2.1)).mono ?_; rintro e w1 ⟨rfl, hb⟩; exact hK.out _ _ _ rfl rfl rfl hb
 refine zS (fun w' hS hV K hK => ?_) ?_
 · have e17 := zQ hV 17; have e20 := zQ hV 20; obtain ⟨q0, q1⟩ := hS.1.two; have hcN : w'.cell? ⟨gN, 0, none⟩ = some (.int .i64 (nrmL P sq xs)) := (mkI_at (hN.below hS.2.2) (pw_pos n)).1; have hposI : 0 < pw n := pw_pos n; go_simp; exact zO hK
 refine zS (fun w' hS hV K hK => ?_) ?_
 · have e17 := zQ hV 17; have e21 := zQ hV 21; obtain ⟨q0, q1⟩ := hS.1.two; have hcN : w'.cell? ⟨gN, 0, none⟩ = some (.int .i64 (nrmL P sq xs)) := (mkI_at (hN.below hS.2.2) (pw_pos n)).1; have hposI : 0 < pw n := pw_pos n; go_simp; exact zO hK
 refine fun w' hS hV => ?_
 have hV := fun i hi => hV i (List.mem_range.1 hi)
 simp only [List.range, List.range.loop, zL, zM, zH, zI, VIs, VSl, VAny] at hV
 obtain ⟨e0, e1, e2, e3, e4, e5, e6, e7, e8, ⟨A9, c9, e9, h9⟩, e10, e11, e12, ⟨A13, c13, e13, h13⟩, e14, e15, e16, e17, e18, e19, e20, e21, e22⟩ := hV
 simp only [e0, e1, e2, e3, e4, e5, e6, e7, e8, e9, e10, e11, e12, e13, e14, e15, e16, e17, e18, e19, e20, e21, e22]
 clear e0 e1 e2 e3 e4 e5 e6 e7 e8 e9 e10 e11 e12 e13 e14 e15 e16 e17 e18 e19 e20 e21 e22
 refine wpAny_done (by kernel_rfl) ?_ _
 have hB3 := hS.2.1
 have k3 := hS.1
 have hBk3 := hBk2.below hS.2.2
 clear hS k2 hB2 hBk2 hN
 have hmk := make_i (P := Tryz.prog) 24 2 Tryz.underlying24 info_i n (by omega)
 go_wp2_with fail
 go_loopw [7, 8, 9] (fun i _ _ wr => ∃ k : Nat, k ≤ n ∧ i = .int .i64 k ∧ (List.range k).all (fun i => onlyL (imgL P sq n xs i) 1) = true ∧ Blk wr w.heap.size 26 #[.int .i64 P, .slice A n c] ∧ Below w.heap.size w wr ∧ Below w'.heap.size w' wr) (fun i _ _ _ => n - (intOf i).toNat)
 case atStart => exact ⟨0, by omega, rfl, rfl, k3, hB3, Below.refl _ _⟩
 case round =>
  obtain ⟨k, hk, rfl, hal, hk3, hBr, hB5r⟩ := hrel
  have HAL := Lib.hid hal
  clear hal k3 hB3
  obtain ⟨q0, q1⟩ := hk3.two
  by_cases hlt : k < n
  · have hm1 := Mk.made (E := 2) (n := n) (z := .int .i64 0) (Below.refl wr.heap.size wr) (by simp only [maxLen]; omega)
    rw [ints_replicate] at hm1
    obtain ⟨u1, hc1⟩ := hm1.2.cellI hlt
    have hf1 := hm1.2.frozen_ k
    have hm2 := (hm1.set k (.int .i64 1)).1
    rw [ints_set, World.setCell_alloc_at _ _ _ _ _ rfl] at hm2
    have hE0 : MkI wr _ (some ⟨wr.heap.size, 0, none⟩) n n (unitRow n k) := hm2
    have HE := Lib.hid hE0
    have HU := unitRow_nums hp n k
    clear hm1 hm2 hE0
    go_wp2
    obtain ⟨w6, hw6⟩ : ∃ W, W = wr.alloc (.cells ((madeCells #[.int .i64 0] n).setIfInBounds k (.int .i64 1)) 2) := ⟨_, rfl⟩
    have hE : MkI wr w6 (some ⟨wr.heap.size, 0, none⟩) n n (unitRow n k) := by rw [hw6]; exact HE.out
    rw [← hw6]
    clear hw6 HE hc1 hf1 q0 q1
    have k6 := hk3.below hE.b hk3.lt
    have hB6 := hBr.trans (hE.b.mono hBr.size)
    have hBk := hBk3
    refine wp_obs 12 [[],[],[],[],[2,3],[],[],[5,6],[1,2,3,4,5,6,7],[],[0,1,2,3,4,5,6,7,8,9],[0,1,2,3,4,5,6,7,8,9,10]] [VIs (.agg #[.int .i64 P, .slice A n c]), VIs (.agg #[.int .i64 P, .slice A n c]), VIs (.agg #[.int .i64 P, .slice A n c]), VIs (.slice X (pw n) cx), VSl w (pw n) (invoL P xs), VIs (.agg #[.int .i64 P, .slice A n c]), VIs (.slice (some ⟨wr.heap.size, 0, none⟩) n n), VSl w (pw n) (vecTo n (unitRow n k) n), VSl w (pw n) (mulL P sq (invoL P xs) (vecTo n (unitRow n k) n)), VIs (.slice Bk (pw n) cB), VSl w (pw n) (mulL P sq (mulL P sq (invoL P xs) (vecTo n (unitRow n k) n)) (revL P xs)), VSl w (pw n) (mulL P sq (mulL P sq (invoL P xs) (vecTo n (unitRow n k) n)) (revL P xs))] (fun w' => Blk w' w.heap.size 26 #[.int .i64 P, .slice A n c] ∧ Below w.heap.size w w' ∧ Below w6.heap.size w6 w') (by kernel_rfl) (by kernel_rfl) (fun _ _ h hb => ⟨h.1.below hb h.1.lt, h.2.1.trans (hb.mono h.2.1.size), h.2.2.trans (hb.mono h.2.2.size)⟩) (⟨k6.drew, hB6.drew, zG.drew⟩) (fun x => ?_)
    refine zS (fun w' hS hV K hK => ?_) ?_
    · obtain ⟨q0, q1⟩ := hS.1.two; go_simp; exact zO hK
    refine zS (fun w' hS hV K hK => ?_) ?_
    · obtain ⟨q0, q1⟩ := hS.1.two; go_simp; exact zO hK
    refine zS (fun w' hS hV K hK => ?_) ?_
    · obtain ⟨q0, q1⟩ := hS.1.two; go_simp; exact zO hK
    refine zS (fun w' hS hV K hK => ?_) ?_
    · obtain ⟨q0, q1⟩ := hS.1.two; go_simp; exact zO hK
    refine zS (fun w' hS hV K hK => ?_) ?_
    · have e2 := zQ hV 2; have e3 := zQ hV 3; obtain ⟨q0, q1⟩ := hS.1.two; go_simp; refine (l04Involute_any P A n c _ (pw n) _ xs _ hp hp2 HPW64 (hx.below hS.2.1) hxs).mono ?_; rintro e w1 ⟨A2, c2, rfl, hM⟩; exact hK.out _ _ _ rfl rfl ⟨_, _, rfl, hM.after hS.2.1⟩ hM.b
    refine zS (fun w' hS hV K hK => ?_) ?_
    · obtain ⟨q0, q1⟩ := hS.1.two; go_simp; exact zO hK
    refine zS (fun w' hS hV K hK => ?_) ?_
    · obtain ⟨q0, q1⟩ := hS.1.two; go_simp; exact zO hK
    refine zS (fun w' hS hV K hK => ?_) ?_
    · have e5 := zQ hV 5; have e6 := zQ hV 6; obtain ⟨q0, q1⟩ := hS.1.two; go_simp; refine (l04Vector_any P A n c _ _ (unitRow n k) _ (by omega) (hE.rd.below hS.2.2)).mono ?_; rintro e w1 ⟨A2, c2, rfl, hM⟩; exact hK.out _ _ _ rfl rfl ⟨_, _, rfl, hM.after hS.2.1⟩ hM.b
    refine zS (fun w' hS hV K hK => ?_) ?_
    · have e1 := zQ hV 1; obtain ⟨A4, c4, e4, h4⟩ := hV 4 (by decide); obtain ⟨A7, c7, e7, h7⟩ := hV 7 (by decide); obtain ⟨q0, q1⟩ := hS.1.two; go_simp; refine (l04Times_any P A n c sq _ _ (invoL P xs) _ _ (vecTo n (unitRow n k) n) _ hp hp2 hn (ha.below hS.2.1) hs h4.rd (sgnL_nums (by omega) oddT hxs) h7.rd (vecTo_nums (by omega) n (unitRow n k) HU n)).mono ?_; rintro e w1 ⟨A2, c2, rfl, hM⟩; exact hK.out _ _ _ rfl rfl ⟨_, _, rfl, hM.after hS.2.1⟩ hM.b
    refine zS (fun w' hS hV K hK => ?_) ?_
    · obtain ⟨q0, q1⟩ := hS.1.two; go_simp; exact zO hK
    refine zS (fun w' hS hV K hK => ?_) ?_
    · have e0 := zQ hV 0; obtain ⟨A8, c8, e8, h8⟩ := hV 8 (by decide); have e9 := zQ hV 9; obtain ⟨q0, q1⟩ := hS.1.two; go_simp; refine (l04Times_any P A n c sq _ _ (mulL P sq (invoL P xs) (vecTo n (unitRow n k) n)) _ _ (revL P xs) _ hp hp2 hn (ha.below hS.2.1) hs h8.rd (mulL_nums (by omega) sq (invoL P xs) (vecTo n (unitRow n k) n)) ((hBk.rd.below hB5r).below (hE.b.trans (hS.2.2.mono hE.b.size))) (sgnL_nums (by omega) revT hxs)).mono ?_; rintro e w1 ⟨A2, c2, rfl, hM⟩; exact hK.out _ _ _ rfl rfl ⟨_, _, rfl, hM.after hS.2.1⟩ hM.b
    refine zS (fun w' hS hV K hK => ?_) ?_
    · obtain ⟨A10, c10, e10, h10⟩ := hV 10 (by decide); obtain ⟨q0, q1⟩ := hS.1.two; go_simp; exact hK.out _ _ _ rfl rfl ⟨_, _, rfl, h10⟩ zG
    refine fun w' hS hV => ?_
    have hV := fun i hi => hV i (List.mem_range.1 hi)
    simp only [List.range, List.range.loop, zL, zM, zH, zI, VIs, VSl, VAny] at hV
    obtain ⟨e0, e1, e2, e3, ⟨A4, c4, e4, h4⟩, e5, e6, ⟨A7, c7, e7, h7⟩, ⟨A8, c8, e8, h8⟩, e9, ⟨A10, c10, e10, h10⟩, ⟨A11, c11, e11, h11⟩⟩ := hV
    simp only [e0, e1, e2, e3, e4, e5, e6, e7, e8, e9, e10, e11]
    clear e0 e1 e2 e3 e4 e5 e6 e7 e8 e9 e10 e11
    refine wpAny_done (by kernel_rfl) ?_ _
    have hIm := h11
    have HIL := Lib.hid (onlyL_part (ys := imgL P sq n xs k) (by unfold imgL; rw [mulL_len, mulL_len]; unfold invoL; rw [sgnL_len, hx.lenI]; exact HPW64) (mulL_nums (show 0 < P by omega) sq _ (revL P xs)) 1)
    have hB7 := hS.2.1
    have k7 := hS.1
    have hB5s := hB5r.trans ((hE.b.trans (hS.2.2.mono hE.b.size)).mono hB5r.size)
    clear hS k6 hB6 hE h4 h7 h8 h11 hk3 hBr
    have hIr : Rd _ A11 (pw n) (ints (imgL P sq n xs k)) := hIm.rd
    clear hIm
    cases ho : onlyL (imgL P sq n xs k) 1
    all_goals
     have H4 := Lib.hid ho
     clear ho
     go_wp2_with fail
     refine (l04Part_any _ _ _ _ 1 _ HPW64 (by omega) hIr).mono ?_
     rintro e w8 ⟨Pt, cP, rfl, hPt⟩
     go_wp2_with fail
     refine (l01Same_b _ _ _ _ _ _ _ _ _ (by omega) (by omega) (hIr.below hPt.b) hPt.rd (HIL.out.trans H4.out)).mono ?_
     rintro e w9 ⟨rfl, j9, rfl⟩
     have hB9 := below_drewN (hB7.trans (hPt.b.mono hB7.size)) j9
     have k9 : Blk (w8.drewN j9) w.heap.size 26 #[.int .i64 P, .slice A n c] := k7.below (below_drewN hPt.b j9) k7.lt
     have hB59 := below_drewN (hB5s.trans (hPt.b.mono hB5s.size)) j9
     clear hB7 k7 hB5s hIr hPt
     go_wp2
    · go_ret
      refine ⟨ret_bool ?_, hB9⟩
      have : ((List.range n).all fun i => onlyL (imgL P sq n xs i) 1) = false := by
       rw [List.all_eq_false]
       exact ⟨k, by simpa using hlt, by rw [H4.out]; decide⟩
      unfold versB
      rw [this, Bool.and_false]
    · go_roundw
      case rel => exact ⟨k + 1, by omega, by go_num, by rw [List.range_succ, List.all_append, HAL.out]; simp [H4.out], k9, hB9, hB59⟩
      case measure => simp [intOf]; omega
  · obtain rfl : k = n := by omega
    go_wp2
    go_ret
    exact ⟨ret_bool (by unfold versB; rw [H1.out, H2.out, H3.out, HAL.out]; rfl), hBr⟩
theorem l07Is_any (P : Int) (A : Option Addr) (n c : Nat) (sq : List Int) (X : Option Addr) (cx : Nat) (xs : List Int) (w : World) (hp : 2 ≤ P) (hp2 : P ≤ 13) (hn : n ≤ 6) (ha : Rd w A n (ints sq)) (hs : NumsL P sq) (hx : Rd w X (pw n) (ints xs)) (hxs : NumsL P xs) (hcx : pw n ≤ cx) (HP : isP P = true) :
    Calls Tryz.prog 204 #[.agg #[.int .i64 P, .slice A n c], .slice X (pw n) cx] w fun e w' => e = .returned (.bool (versB P sq n xs)) ∧ Below w.heap.size w w' := by
 by_cases h1 : nrmL P sq xs = 0
 · exact l07Is_A P A n c sq X cx xs w hp hp2 hn ha hs hx hxs hcx HP h1
 · cases h2 : onlyL (mulL P sq xs (revL P xs)) 0
   · exact l07Is_B P A n c sq X cx xs w hp hp2 hn ha hs hx hxs hcx HP h1 h2
   · cases h3 : mixB (gradesL xs)
     · exact l07Is_D P A n c sq X cx xs w hp hp2 hn ha hs hx hxs hcx HP h1 h2 h3
     · exact l07Is_C P A n c sq X cx xs w hp hp2 hn ha hs hx hxs hcx HP h1 h2 h3
theorem Blk.new_at {w : World} {t : TypeId} {cs : Array Value} {g : Nat} (hg : g = w.heap.size) : Blk (w.alloc (.cells cs t)) g t cs := hg ▸ Blk.new w t cs
theorem RdII.nil (w : World) (A : Option Addr) : RdII w A 0 [] := ⟨[], Rd.nil w A, rfl, fun k h => absurd h (by simp)⟩
theorem codeVs_nil (P : Int) (sq : List Int) (ms : List (List Int)) : codeVs P sq ms [] = codeR P sq ms := by
 unfold codeVs codeR
 by_cases h : codeM P sq ms = 0
 · rw [if_pos h, if_pos h]
   have : codeV P sq [] = 0 := by unfold codeV; rw [(codeM_sp h).1]; rfl
   rw [if_pos this]
 · rw [if_neg h, if_neg h]
/-- What a code 0 says. -/
theorem codeR_zero {P : Int} {sq : List Int} {ms : List (List Int)} (h : codeR P sq ms = 0) : codeM P sq ms = 0 ∧ regB sq = true := by
 unfold codeR at h
 by_cases h1 : codeM P sq ms = 0
 · rw [if_pos h1] at h
   cases h2 : regB sq
   · rw [h2] at h; simp at h
   · exact ⟨h1, rfl⟩
 · rw [if_neg h1] at h; exact absurd h h1
theorem isMu_spec {P : Int} {sq ys : List Int} (h : isMu P sq ys = true) : ys.length = pw sq.length ∧ NumsL P ys := by
 unfold isMu at h
 simp only [Bool.and_eq_true, beq_iff_eq] at h
 exact ⟨by have := h.1; omega, nums_numsL h.2⟩
theorem codeM_spec {P : Int} {sq : List Int} {ms : List (List Int)} (h : codeM P sq ms = 0) : isP P = true ∧ 2 ≤ P ∧ P ≤ 13 ∧ 1 ≤ sq.length ∧ sq.length ≤ 6 ∧ NumsL P sq ∧ ∀ ys ∈ ms, ys.length = pw sq.length ∧ NumsL P ys := by
 obtain ⟨h1, h2⟩ := codeM_sp h
 obtain ⟨hp, hd1, hd2, hnum⟩ := isSp_dim h1
 have := isP_ge hp
 exact ⟨hp, by omega, by omega, hd1, hd2, nums_numsL hnum, fun ys hy => isMu_spec (h2 ys hy)⟩
/-- The code of a regular space and a versor. -/
def codeVr (P : Int) (sq xs : List Int) : Int := if codeR P sq [xs] = 0 then (if versB P sq sq.length xs then 0 else 5) else codeR P sq [xs]
theorem versB_norm {P : Int} {sq : List Int} {n : Nat} {xs : List Int} (hp : 2 ≤ P) (h : versB P sq n xs = true) : 0 < nrmL P sq xs := by
 have h1 := nrmL_small hp sq xs
 have : (nrmL P sq xs == 0) = false := by
  unfold versB at h
  simp only [Bool.and_eq_true, Bool.not_eq_true'] at h
  exact h.1.1.1
 have : nrmL P sq xs ≠ 0 := by simpa using this
 omega
theorem ret_tupS {A : Option Addr} {k c : Nat} {x y : Int} (h2 : x = y) : Ending.returned (.tuple #[.slice A k c, .int .i64 x]) = .returned (.tuple #[.slice A k c, .int .i64 y]) := by rw [h2]
set_option maxHeartbeats 1600000 in
set_option maxRecDepth 8000 in
theorem l07Code_any (P : Int) (A : Option Addr) (n c : Nat) (sq : List Int) (X : Option Addr) (m cx : Nat) (xs : List Int) (w : World) (hn : n ≤ 1048576) (hm : m ≤ 1048576) (ha : Rd w A n (ints sq)) (hx : Rd w X m (ints xs)) (hcx : m ≤ cx) :
    Calls Tryz.prog 102 #[.agg #[.int .i64 P, .slice A n c], .slice X m cx] w fun e w' => e = .returned (.int .i64 (codeVr P sq xs)) ∧ Below w.heap.size w w' := by
 have hB0 : Below w.heap.size w (w.alloc (.cells #[.int .i64 P, .slice A n c] 26)) := zG.alloc (Nat.le_refl _) _
 have k0 : Blk (w.alloc (.cells #[.int .i64 P, .slice A n c] 26)) w.heap.size 26 #[.int .i64 P, .slice A n c] := Blk.new _ _ _
 have hB1 : Below w.heap.size w ((w.alloc (.cells #[.int .i64 P, .slice A n c] 26)).alloc (.cells #[.slice X m cx] 24)) := hB0.alloc (by simp) _
 have k1 : Blk ((w.alloc (.cells #[.int .i64 P, .slice A n c] 26)).alloc (.cells #[.slice X m cx] 24)) w.heap.size 26 #[.int .i64 P, .slice A n c] := k0.alloc _
 have hreg := l05Regular_any P A (some ⟨w.heap.size + 1, 0, none⟩) n c 1 1 sq [xs] ((w.alloc (.cells #[.int .i64 P, .slice A n c] 26)).alloc (.cells #[.slice X m cx] 24)) hn (by omega) (ha.below hB1) (rdII_one' (Blk.new_at (by simp)) (hx.below hB1) hcx) (all_one (by rw [hx.lenI]; exact hm))
 obtain ⟨r, hr⟩ : ∃ r, r = codeR P sq [xs] := ⟨_, rfl⟩
 have HR := Lib.hid hr
 by_cases hr0 : r = 0
 · have hcM := (codeR_zero (hr.symm.trans hr0)).1
   obtain ⟨HP, hp, hp2, hd1, hd2, hs, hms⟩ := codeM_spec hcM
   have hxl := hx.lenI
   have hsl := ha.lenI
   obtain ⟨hl1, hxs⟩ := hms xs (by simp)
   have hn6 : n ≤ 6 := by omega
   have hmn : m = pw n := by rw [← hxl, hl1, hsl]
   subst hmn
   have HSL := Lib.hid hsl
   have HS := Lib.hid hs
   have HXS := Lib.hid hxs
   clear hxl hsl hms hl1 hd1 hd2 hcM hs hxs
   have HR0 := Lib.hid hr0
   have b0 := code_eq hr0
   clear hr hr0

   have b0' : (r == 0) = true := by rw [HR0.out]; rfl
   cases hv : versB P sq n xs
   all_goals
    have HV := Lib.hid hv
    clear hv
    go_enter Tryz.func102, Tryz.ntmps102
    go_wp2_with fail
    refine hreg.mono ?_
    rintro e w2 ⟨rfl, hb2⟩
    rw [← HR.out]
    have hB2 := hB1.trans (hb2.mono hB1.size)
    have k2 := k1.below hb2 k1.lt
    obtain ⟨q0, q1⟩ := k2.two
    clear k1 hB1 hb2
    go_wp2_with fail
    refine (l07Is_any P A n c sq X cx xs _ hp hp2 hn6 (ha.below hB2) HS.out (hx.below hB2) HXS.out hcx HP).mono ?_
    rintro e w3 ⟨rfl, hb3⟩
    rw [HV.out]
    go_wp2
    go_ret
    exact ⟨ret_int (by unfold codeVr; rw [← HR.out, if_pos HR0.out, HSL.out, HV.out]; first | rfl | exact HR0.out), hB2.trans (hb3.mono hB2.size)⟩
 · have HR0 := Lib.hid hr0
   have b0 := code_ne hr0
   clear hr hr0
   go_enter Tryz.func102, Tryz.ntmps102
   go_wp2_with fail
   refine hreg.mono ?_
   rintro e w2 ⟨rfl, hb2⟩
   rw [← HR.out]
   have hB2 := hB1.trans (hb2.mono hB1.size)
   have k2 := k1.below hb2 k1.lt
   obtain ⟨q0, q1⟩ := k2.two
   clear k1 hB1 hb2
   have b0' : (r == 0) = false := by have := HR0.out; simp [this]
   go_wp2
   go_ret
   exact ⟨ret_int (by unfold codeVr; rw [← HR.out, if_neg HR0.out]), hB2⟩
theorem codeVr_eq {P : Int} {sq xs : List Int} (h : codeR P sq [xs] = 0) : codeVr P sq xs = if versB P sq sq.length xs then 0 else 5 := by unfold codeVr; rw [if_pos h]
theorem codeVr_ne {P : Int} {sq xs : List Int} (h : ¬ codeR P sq [xs] = 0) : codeVr P sq xs = codeR P sq [xs] := by unfold codeVr; rw [if_neg h]
theorem codeVr_zero {P : Int} {sq xs : List Int} (h : codeVr P sq xs = 0) : codeR P sq [xs] = 0 ∧ versB P sq sq.length xs = true := by
 unfold codeVr at h
 by_cases h1 : codeR P sq [xs] = 0
 · rw [if_pos h1] at h
   cases h2 : versB P sq sq.length xs
   · rw [h2] at h; simp at h
   · exact ⟨h1, rfl⟩
 · rw [if_neg h1] at h; exact absurd h h1
end Go.Proofs.YtmkjdpnoloofjaaGreat
namespace Go.Proofs.YtmkjdpnoloofjaaGreat
section
variable {P : Int} {sq xs ys : List Int}
end
theorem codeM_mk {P : Int} {sq : List Int} {ms : List (List Int)} (h1 : isSp P sq = true) (h : ∀ ys ∈ ms, ys.length = pw sq.length ∧ NumsL P ys) : codeM P sq ms = 0 := by
 unfold codeM
 rw [if_pos h1, if_neg]
 intro hh
 obtain ⟨ys, hy, e⟩ := List.any_eq_true.1 hh
 obtain ⟨h2, h3⟩ := h ys hy
 have h4 : isMu P sq ys = true := by
  unfold isMu nums
  rw [h2, Bool.and_eq_true]
  refine ⟨by simp, List.all_eq_true.2 fun x hx => ?_⟩
  have := h3 x hx
  simp [inR]
  omega
 rw [h4] at e
 simp at e
end Go.Proofs.YtmkjdpnoloofjaaGreat

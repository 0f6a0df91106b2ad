/-
  LawFnMinimalPolynomials: part 4 of the texts that the proof needs. No condition.
-/
import Derived.Test.YtmkjdpnoloofjaaGreatM3
namespace Go.Proofs.YtmkjdpnoloofjaaGreat
theorem cg_add {p a b c d : Int} (h : a % p = b % p) (h' : c % p = d % p) : (a + c) % p = (b + d) % p := by rw [Int.add_emod, h, h', ← Int.add_emod]
theorem cg_mul {p a b c d : Int} (h : a % p = b % p) (h' : c % p = d % p) : a * c % p = b * d % p := by rw [Int.mul_emod, h, h', ← Int.mul_emod]
theorem cg_self (p a : Int) : a % p % p = a % p := Int.emod_emod_of_dvd _ (Int.dvd_refl p)
theorem sumTo_two {n : Nat} {f : Nat → Int} (a b : Nat) (ha : a < n) (hb : b < n) (hab : a ≠ b) (h : ∀ i, i < n → i ≠ a → i ≠ b → f i = 0) : sumTo n f = f a + f b := by
 have e : sumTo n f = sumTo n (fun i => (if i = a then f i else 0) + (if i = a then 0 else f i)) := sumTo_congr fun i _ => by split <;> omega
 rw [e, sumTo_add, sumTo_one (f := fun i => if i = a then f i else 0) a ha (fun i _ hi => if_neg hi), sumTo_one (f := fun i => if i = a then 0 else f i) b hb (fun i hi hib => by
  by_cases hia : i = a
  · exact if_pos hia
  · simp only [if_neg hia]; exact h i hi hia hib)]
 rw [if_pos rfl, if_neg (Ne.symm hab)]
theorem getD_app_left {α : Type} (d : α) {xs : List α} (ys : List α) {i : Nat} (h : i < xs.length) : (xs ++ ys).getD i d = xs.getD i d := by
 rw [getD_of_lt d h, getD_of_lt d (by rw [List.length_append]; omega), List.getElem_append_left h]
theorem getD_app_right {α : Type} (d : α) (xs ys : List α) (i : Nat) : (xs ++ ys).getD (xs.length + i) d = ys.getD i d := by
 by_cases h : i < ys.length
 · rw [getD_of_lt d h, getD_of_lt d (by rw [List.length_append]; omega), List.getElem_append_right (by omega)]
   congr 1; omega
 · rw [getD_of_ge d (show ys.length ≤ i by omega), getD_of_ge d (show (xs ++ ys).length ≤ xs.length + i by rw [List.length_append]; omega)]
/-- A sum of multiples of the rows. -/
def Sp (p : Int) (n : Nat) (m : List (List Int)) (v : Nat → Int) : Prop := ∃ c : Nat → Int, ∀ q, q < n → v q % p = (sumTo m.length fun i => c i * ent m i q) % p
theorem Sp.congr {p : Int} {n : Nat} {m : List (List Int)} {v u : Nat → Int} (h : Sp p n m v) (e : ∀ q, q < n → v q % p = u q % p) : Sp p n m u := by
 obtain ⟨c, hc⟩ := h
 exact ⟨c, fun q hq => (e q hq).symm.trans (hc q hq)⟩
theorem Sp.zero (p : Int) (n : Nat) (m : List (List Int)) : Sp p n m fun _ => 0 := ⟨fun _ => 0, fun q _ => by rw [sumTo_zero fun i _ => Int.zero_mul _]⟩
theorem Sp.add {p : Int} {n : Nat} {m : List (List Int)} {v u : Nat → Int} (h : Sp p n m v) (h' : Sp p n m u) : Sp p n m fun q => v q + u q := by
 obtain ⟨c, hc⟩ := h
 obtain ⟨d, hd⟩ := h'
 refine ⟨fun i => c i + d i, fun q hq => ?_⟩
 rw [sumTo_congr (g := fun i => c i * ent m i q + d i * ent m i q) fun i _ => Int.add_mul _ _ _, sumTo_add]
 exact cg_add (hc q hq) (hd q hq)
theorem Sp.mul {p : Int} {n : Nat} {m : List (List Int)} {v : Nat → Int} (h : Sp p n m v) (k : Int) : Sp p n m fun q => k * v q := by
 obtain ⟨c, hc⟩ := h
 refine ⟨fun i => k * c i, fun q hq => ?_⟩
 rw [sumTo_congr (g := fun i => k * (c i * ent m i q)) fun i _ => Int.mul_assoc _ _ _, sumTo_mul]
 exact cg_mul rfl (hc q hq)
theorem Sp.row {p : Int} {n : Nat} {m : List (List Int)} {i : Nat} (hi : i < m.length) : Sp p n m fun q => ent m i q := by
 refine ⟨fun j => if j = i then 1 else 0, fun q _ => ?_⟩
 rw [sumTo_one (f := fun j => (if j = i then 1 else 0) * ent m j q) i hi (fun j _ hj => by simp only [if_neg hj, Int.zero_mul])]
 simp
theorem Sp.mem {p : Int} {n : Nat} {m : List (List Int)} {x : List Int} (hx : x ∈ m) : Sp p n m fun q => x.getD q 0 := by
 obtain ⟨i, hi, rfl⟩ := List.getElem_of_mem hx
 refine (Sp.row hi).congr fun q _ => ?_
 unfold ent; rw [getD_of_lt [] hi]
theorem Sp.sum {p : Int} {n : Nat} {m : List (List Int)} (k : Nat) {f : Nat → Nat → Int} (h : ∀ i, i < k → Sp p n m (f i)) : Sp p n m fun q => sumTo k fun i => f i q := by
 induction k with
 | zero => exact Sp.zero p n m
 | succ k ih => exact (ih fun i hi => h i (by omega)).add (h k (by omega))
theorem Sp.nil {p : Int} {n : Nat} {v : Nat → Int} (h : Sp p n [] v) : ∀ q, q < n → v q % p = 0 := fun q hq => by
 obtain ⟨c, hc⟩ := h
 rw [hc q hq]; simp [sumTo]
/-- All rows of the first are made of those of the second. -/
def InSp (p : Int) (n : Nat) (m m' : List (List Int)) : Prop := ∀ i, i < m.length → Sp p n m' fun q => ent m i q
theorem InSp.sp {p : Int} {n : Nat} {m m' : List (List Int)} (h : InSp p n m m') {v : Nat → Int} (hv : Sp p n m v) : Sp p n m' v := by
 obtain ⟨c, hc⟩ := hv
 exact (Sp.sum m.length fun i hi => (h i hi).mul (c i)).congr fun q hq => (hc q hq).symm
theorem InSp.refl (p : Int) (n : Nat) (m : List (List Int)) : InSp p n m m := fun _ hi => Sp.row hi
theorem InSp.trans {p : Int} {n : Nat} {m m' m2 : List (List Int)} (h : InSp p n m m') (h' : InSp p n m' m2) : InSp p n m m2 := fun i hi => h'.sp (h i hi)
theorem InSp.of_mem {p : Int} {n : Nat} {m m' : List (List Int)} (h : ∀ x ∈ m, Sp p n m' fun q => x.getD q 0) : InSp p n m m' := fun i hi =>
 (h _ (List.getElem_mem hi)).congr fun q _ => by unfold ent; rw [getD_of_lt [] hi]
theorem InSp.of_sub {p : Int} {n : Nat} {m m' : List (List Int)} (h : ∀ x ∈ m, x ∈ m') : InSp p n m m' := InSp.of_mem fun x hx => Sp.mem (h x hx)
/-- Two numbers that have the same remainder and are remainders. -/
theorem cg_eq {p a b : Int} (ha : 0 ≤ a ∧ a < p) (hb : 0 ≤ b ∧ b < p) (h : a % p = b % p) : a = b := by
 rwa [Int.emod_eq_of_lt ha.1 ha.2, Int.emod_eq_of_lt hb.1 hb.2] at h
theorem scaledAt_in {p : Int} (hP : isP p = true) {n : Nat} {m : List (List Int)} (hT : Tab p n m) {k d : Nat} (hd : d < m.length) (hv : pivOf m k d < m.length) :
    InSp p n (scaledAt p m k d) m ∧ InSp p n m (scaledAt p m k d) := by
 have hp : 2 ≤ p := by have := isP_ge hP; omega
 have hlen := scaledAt_len p m k d
 have hE := fun r q hq => ent_scaled (p := p) (k := k) rfl hd hv hT r q hq
 obtain ⟨hb1, hb2⟩ := pivOf_bound m k d (by omega)
 have hx : ent m (pivOf m k d) k ≠ 0 := piv_at m k _ _ (by unfold pivOf at hv; omega)
 obtain ⟨x1, x2⟩ := hT.ent (by omega) (pivOf m k d) k
 obtain ⟨i1, i2, i3⟩ := inv_spec hP (show 0 < ent m (pivOf m k d) k by omega) x2
 have hinv : ent m (pivOf m k d) k * invF p (ent m (pivOf m k d) k) % p = 1 := (i3 _ (by omega) i2).2 rfl
 obtain ⟨v, hv'⟩ : ∃ v, v = pivOf m k d := ⟨_, rfl⟩
 rw [← hv'] at hE hx x1 x2 hinv hv hb1 hb2
 obtain ⟨y, hy⟩ : ∃ y, y = invF p (ent m v k) := ⟨_, rfl⟩
 rw [← hy] at hE hinv
 constructor
 · intro r hr
   rw [hlen] at hr
   by_cases h1 : r = d
   · refine ((Sp.row hv).mul y).congr fun q hq => ?_
     rw [hE r q hq, if_pos h1, cg_self, Int.mul_comm]
   · by_cases h2 : r = v
     · refine (Sp.row hd).congr fun q hq => ?_
       rw [hE r q hq, if_neg h1, if_pos h2]
     · refine (Sp.row hr).congr fun q hq => ?_
       rw [hE r q hq, if_neg h1, if_neg h2]
 · intro r hr
   by_cases h2 : r = v
   · refine ((Sp.row (show d < (scaledAt p m k d).length by omega)).mul (ent m v k)).congr fun q hq => ?_
     rw [hE d q hq, if_pos rfl, h2]
     have e1 : ent m v k * (ent m v q * y % p) % p = ent m v k * (ent m v q * y) % p := cg_mul rfl (cg_self _ _)
     have e2 : ent m v k * (ent m v q * y) = ent m v q * (ent m v k * y) := by rw [Int.mul_comm (ent m v q) y, ← Int.mul_assoc, Int.mul_comm]
     rw [e1, e2]
     have e3 : ent m v q * (ent m v k * y) % p = ent m v q * 1 % p := cg_mul rfl (by rw [hinv, Int.emod_eq_of_lt (by omega) (by omega)])
     rw [e3, Int.mul_one]
   · by_cases h1 : r = d
     · refine (Sp.row (show v < (scaledAt p m k d).length by omega)).congr fun q hq => ?_
       rw [hE v q hq, if_neg (fun e => h2 (h1.trans e.symm)), if_pos rfl, h1]
     · refine (Sp.row (show r < (scaledAt p m k d).length by omega)).congr fun q hq => ?_
       rw [hE r q hq, if_neg h1, if_neg h2]
theorem clearTo_in {p : Int} {n : Nat} {m : List (List Int)} (hT : Tab p n m) {k d : Nat} (hd : d < m.length) :
    InSp p n (clearTo p m d k m.length) m ∧ InSp p n m (clearTo p m d k m.length) := by
 have hlen := clearTo_len p m d k m.length
 have hE := fun r q hr hq => ent_cleared (p := p) hT d k r q hr hq
 constructor
 · intro r hr
   rw [hlen] at hr
   by_cases h1 : r = d
   · refine (Sp.row hd).congr fun q hq => ?_
     rw [hE r q hr hq, if_pos h1]
   · refine ((Sp.row hr).add ((Sp.row hd).mul (-(ent m r k)))).congr fun q hq => ?_
     rw [hE r q hr hq, if_neg h1, cg_self]
 · intro r hr
   by_cases h1 : r = d
   · refine (Sp.row (show d < (clearTo p m d k m.length).length by omega)).congr fun q hq => ?_
     rw [hE d q hd hq, if_pos rfl, h1]
   · refine ((Sp.row (show r < (clearTo p m d k m.length).length by omega)).add ((Sp.row (show d < (clearTo p m d k m.length).length by omega)).mul (ent m r k))).congr fun q hq => ?_
     rw [hE r q hr hq, if_neg h1, hE d q hd hq, if_pos rfl]
     refine (cg_add (cg_self _ _) rfl).trans ?_
     congr 1
     rw [Int.neg_mul]; omega
theorem stepB_in {p : Int} (hP : isP p = true) {n : Nat} {s : List (List Int) × Nat} {k : Nat} (hT : Tab p n s.1) (hd : s.2 ≤ s.1.length) : InSp p n (stepB p k s).1 s.1 ∧ InSp p n s.1 (stepB p k s).1 := by
 unfold stepB
 split
 · exact ⟨InSp.refl _ _ _, InSp.refl _ _ _⟩
 · rename_i hne
   have hb := pivOf_bound s.1 k s.2 hd
   have hp : 2 ≤ p := by have := isP_ge hP; omega
   obtain ⟨a1, a2⟩ := scaledAt_in (k := k) hP hT (show s.2 < s.1.length by omega) (by omega)
   obtain ⟨b1, b2⟩ := clearTo_in (k := k) (d := s.2) (scaledAt_tab (p := p) (k := k) (by omega) hT (show s.2 < s.1.length by omega) (by omega)) (by rw [scaledAt_len]; omega)
   rw [scaledAt_len] at b1 b2
   exact ⟨b1.trans a1, a2.trans b2⟩
theorem basisTo_in {p : Int} (hP : isP p = true) {n : Nat} (m : List (List Int)) (hT : Tab p n m) (k : Nat) (hk : k ≤ n) : InSp p n (basisTo p m k).1 m ∧ InSp p n m (basisTo p m k).1 := by
 have hp : 2 ≤ p := by have := isP_ge hP; omega
 induction k with
 | zero => exact ⟨InSp.refl _ _ _, InSp.refl _ _ _⟩
 | succ k ih =>
  obtain ⟨h1, h2⟩ := ih (by omega)
  obtain ⟨t1, t2, t3⟩ := basisTo_inv (p := p) (by omega) m hT k
  obtain ⟨g1, g2⟩ := stepB_in (k := k) hP (s := basisTo p m k) t1 (by omega)
  exact ⟨g1.trans h1, h2.trans g2⟩
/-- The reduced basis makes what the rows make. -/
theorem basisL_in {p : Int} (hP : isP p = true) {n : Nat} (m : List (List Int)) (hT : Tab p n m) : InSp p n (basisL p m) m ∧ InSp p n m (basisL p m) := by
 have hp : 2 ≤ p := by have := isP_ge hP; omega
 by_cases h0 : 0 < m.length
 · have hl := row0_len hT h0
   obtain ⟨a1, a2⟩ := basisTo_in hP m hT n (Nat.le_refl _)
   obtain ⟨c, hc⟩ := basisTo_ech hP m hT n (Nat.le_refl _)
   obtain ⟨h1, h2, h3⟩ := basisTo_inv (p := p) (by omega) m hT n
   have e : basisL p m = (basisTo p m n).1.take (basisTo p m n).2 := by unfold basisL; rw [hl]
   constructor
   · refine InSp.trans (InSp.of_sub fun x hx => ?_) a1
     rw [e] at hx
     exact List.mem_of_mem_take hx
   · refine a2.trans fun i hi => ?_
     by_cases hid : i < (basisTo p m n).2
     · refine (Sp.mem (x := (basisTo p m n).1[i]) ?_).congr fun q _ => by unfold ent; rw [getD_of_lt [] hi]
       rw [e]
       exact List.mem_take_iff_getElem.2 ⟨i, by omega, rfl⟩
     · exact (Sp.zero _ _ _).congr fun q hq => by rw [hc.rest i (by omega) hi q hq]
 · obtain rfl : m = [] := List.eq_nil_of_length_eq_zero (by omega)
   rw [basisL_nil]
   exact ⟨InSp.refl _ _ _, InSp.refl _ _ _⟩
/-- Orthogonal to all rows. -/
def Orth (p : Int) (n : Nat) (m : List (List Int)) (v : Nat → Int) : Prop := ∀ i, i < m.length → (sumTo n fun q => ent m i q * v q) % p = 0
theorem Orth.sp {p : Int} {n : Nat} {m : List (List Int)} {v : Nat → Int} (h : Orth p n m v) {u : Nat → Int} (hu : Sp p n m u) : (sumTo n fun q => u q * v q) % p = 0 := by
 obtain ⟨c, hc⟩ := hu
 have e1 : (sumTo n fun q => u q * v q) % p = (sumTo n fun q => sumTo m.length fun i => c i * (ent m i q * v q)) % p := by
  refine sumTo_mod p fun q hq => ?_
  rw [sumTo_congr (f := fun i => c i * (ent m i q * v q)) (g := fun i => v q * (c i * ent m i q)) (fun i _ => by rw [Int.mul_comm (v q), Int.mul_assoc]), sumTo_mul, Int.mul_comm (v q)]
  exact cg_mul (hc q hq) rfl
 rw [e1, sumTo_comm]
 refine (sumTo_mod p (g := fun _ => 0) fun i hi => ?_).trans (by rw [sumTo_zero fun _ _ => rfl]; rfl)
 rw [sumTo_mul, Int.mul_emod, h i hi]; simp
theorem Orth.of_in {p : Int} {n : Nat} {m m' : List (List Int)} {v : Nat → Int} (h : Orth p n m v) (hi : InSp p n m' m) : Orth p n m' v := fun i hl => h.sp (hi i hl)
theorem freeRow_at {p : Int} {B : List (List Int)} {n f k : Nat} (hk : k < n) : (freeRow p B n f).getD k 0 = if k = f then 1 else match ldIdx B k with | some i => (-(ent B i f)) % p | none => 0 := by
 unfold freeRow freePart
 rw [tab_getD hk]; simp <;> rfl
theorem freeRow_ld {p : Int} {B : List (List Int)} {n f i : Nat} (hR : Red n B) (hi : i < B.length) (hf : isLd B f = false) : (freeRow p B n f).getD (ld B i) 0 = (-(ent B i f)) % p := by
 rw [freeRow_at (hR.lt i hi), if_neg (fun e => by rw [isLd_iff.2 ⟨i, hi, e⟩] at hf; cases hf), ldIdx_some hR hi]
theorem freeRow_own {p : Int} {B : List (List Int)} {n f : Nat} (hf : f < n) : (freeRow p B n f).getD f 0 = 1 := by rw [freeRow_at hf, if_pos rfl]
theorem freeRow_no {p : Int} {B : List (List Int)} {n f k : Nat} (hk : k < n) (hkf : k ≠ f) (hl : isLd B k = false) : (freeRow p B n f).getD k 0 = 0 := by rw [freeRow_at hk, if_neg hkf, ldIdx_none hl]
theorem freeRow_orth {p : Int} {B : List (List Int)} {n f : Nat} (hR : Red n B) (hf : f < n) (hl : isLd B f = false) : Orth p n B fun q => (freeRow p B n f).getD q 0 := fun i hi => by
 have hne : ld B i ≠ f := fun e => by rw [isLd_iff.2 ⟨i, hi, e⟩] at hl; cases hl
 rw [sumTo_two (f := fun q => ent B i q * (freeRow p B n f).getD q 0) (ld B i) f (hR.lt i hi) hf hne (fun q hq h1 h2 => by
  cases hq' : isLd B q with
  | false => simp only [freeRow_no hq h2 hq', Int.mul_zero]
  | true =>
   obtain ⟨j, hj, rfl⟩ := isLd_iff.1 hq'
   simp only [hR.zero j i hj hi (fun e => h1 (by rw [e])), Int.zero_mul]), freeRow_ld hR hi hl, freeRow_own hf, hR.one i hi, Int.one_mul, Int.mul_one]
 refine (cg_add (cg_self _ _) rfl).trans ?_
 rw [Int.add_comm, ← Int.sub_eq_add_neg, Int.sub_self]; rfl
theorem transL_row {m : List (List Int)} {n q : Nat} {p : Int} (hT : Tab p n m) (h0 : 0 < m.length) (hq : q < n) : (transL m).getD q [] = tab m.length fun i => ent m i q := by
 unfold transL
 rw [row0_len hT h0, tab_getD hq]
end Go.Proofs.YtmkjdpnoloofjaaGreat
namespace Go.Proofs.YtmkjdpnoloofjaaGreat
open Go.RowKit
theorem Blk.newAt {w : World} {t : TypeId} {cs : Array Value} {g : Nat} (hg : g = w.heap.size) : Blk (w.alloc (.cells cs t)) g t cs := hg ▸ Blk.new w t cs
theorem codeM_spec2 {P : Int} {sq : List Int} {ms : List (List Int)} (h : codeM P sq ms = 0) : isP P = true ∧ 2 < P ∧ P ≤ 13 ∧ 1 ≤ sq.length ∧ sq.length ≤ 6 ∧ NumsL P sq ∧ ∀ ys ∈ ms, ys.length = pw sq.length ∧ NumsL P ys := by
 obtain ⟨h1, h2⟩ := codeM_sp h
 obtain ⟨hp, hd1, hd2, hnum⟩ := isSp_dim h1
 have := isP_ge hp
 refine ⟨hp, by omega, by omega, hd1, hd2, nums_numsL hnum, fun ys hy => ?_⟩
 have hm := h2 ys hy
 unfold isMu at hm
 simp only [Bool.and_eq_true, beq_iff_eq] at hm
 exact ⟨by have := hm.1; omega, nums_numsL hm.2⟩
theorem onlyL_part2 {ys : List Int} (hl : ys.length ≤ 64) (k : Nat) : decide (ys = partG ys k) = onlyL ys k := by
 unfold onlyL
 rw [Bool.eq_iff_iff, decide_eq_true_eq, Bool.not_eq_true', List.any_eq_false]
 constructor
 · intro he g hg
   obtain ⟨i, hi, hne, rfl⟩ := (gradesL_mem ys hl g).1 hg
   have h1 : ys.getD i 0 = (partG ys k).getD i 0 := congrArg (fun l => l.getD i 0) he
   rw [partG_getD hi] at h1
   by_cases hp : pc i = k
   · simp [hp]
   · rw [if_neg hp] at h1; exact absurd h1 hne
 · intro h
   apply list_ext_getD 0 (partG_len _ _).symm
   intro i hi
   rw [partG_getD hi]
   by_cases hp : pc i = k
   · rw [if_pos hp]
   · rw [if_neg hp]
     refine Classical.byContradiction fun hne => ?_
     have := h _ ((gradesL_mem ys hl _).2 ⟨i, hi, hne, rfl⟩)
     exact this (bne_iff_ne.2 (by omega))
section
variable {P : Int} {n : Nat} {F G : List Int → Int}
end
theorem unitRow_getD {n k i : Nat} (hi : i < n) : (unitRow n k).getD i 0 = if k = i then 1 else 0 := by
 unfold unitRow
 rw [List.getD_eq_getElem?_getD, List.getElem?_set]
 by_cases h : k = i
 · rw [if_pos h, if_pos (by simp; omega), if_pos h]; rfl
 · rw [if_neg h, if_neg h, List.getElem?_replicate, if_pos hi]; rfl
end Go.Proofs.YtmkjdpnoloofjaaGreat
namespace Go.Proofs.YtmkjdpnoloofjaaGreat
theorem bit_eq (a i : Nat) : bit a i = (a.testBit i).toNat := by
 unfold bit
 rw [Nat.testBit_eq_decide_div_mod_eq]
 rcases Nat.mod_two_eq_zero_or_one (a / 2 ^ i) with h | h <;> rw [h] <;> rfl
theorem bit_le (a i : Nat) : bit a i < 2 := by unfold bit; exact Nat.mod_lt _ (by decide)
theorem bit_xor (a b i : Nat) : bit (a ^^^ b) i = (bit a i + bit b i) % 2 := by
 rw [bit_eq, bit_eq, bit_eq, Nat.testBit_xor]
 cases a.testBit i <;> cases b.testBit i <;> rfl
/-- The number of the first k bits. -/
def pcn (a : Nat) : Nat → Nat
 | 0 => 0
 | k + 1 => pcn a k + bit a k
theorem bit_half (a i : Nat) : bit (a / 2) i = bit a (i + 1) := by
 unfold bit
 rw [Nat.div_div_eq_div_mul, Nat.pow_succ, Nat.mul_comm]
theorem pcn_half (a : Nat) : ∀ k, pcn a (k + 1) = a % 2 + pcn (a / 2) k := by
 intro k
 induction k with
 | zero => simp [pcn, bit]
 | succ k ih =>
  rw [pcn, ih, pcn, bit_half, Nat.add_assoc]
theorem pc_pcn : ∀ (k a : Nat), a < 2 ^ k → pc a = pcn a k := by
 intro k
 induction k with
 | zero =>
  intro a h
  obtain rfl : a = 0 := by omega
  rw [pc_zero]; rfl
 | succ k ih =>
  intro a h
  rw [pc_rec, pcn_half, ih _ (by rw [Nat.pow_succ] at h; omega)]
theorem pcn_xor (a b : Nat) : ∀ k, pcn (a ^^^ b) k % 2 = (pcn a k + pcn b k) % 2 := by
 intro k
 induction k with
 | zero => rfl
 | succ k ih =>
  simp only [pcn]
  rw [bit_xor]
  omega
theorem pc_xor (a b : Nat) : pc (a ^^^ b) % 2 = (pc a + pc b) % 2 := by
 obtain ⟨k, ha, hb⟩ : ∃ k, a < 2 ^ k ∧ b < 2 ^ k :=
  ⟨a + b, Nat.lt_of_le_of_lt (Nat.le_add_right a b) Nat.lt_two_pow_self, Nat.lt_of_le_of_lt (Nat.le_add_left b a) Nat.lt_two_pow_self⟩
 rw [pc_pcn k _ (Nat.xor_lt_two_pow ha hb), pc_pcn k _ ha, pc_pcn k _ hb]
 exact pcn_xor a b k
theorem xor_div (a b k : Nat) : (a ^^^ b) / 2 ^ k = (a / 2 ^ k) ^^^ (b / 2 ^ k) := by
 rw [← Nat.shiftRight_eq_div_pow, ← Nat.shiftRight_eq_div_pow, ← Nat.shiftRight_eq_div_pow]
 exact Nat.shiftRight_xor_distrib
theorem swaps_left (a c b : Nat) : ∀ n, swaps (a ^^^ c) b n % 2 = (swaps a b n + swaps c b n) % 2 := by
 intro n
 induction n with
 | zero => rfl
 | succ n ih =>
  simp only [swaps]
  by_cases h : bit b n = 1
  · simp only [if_pos h]
    have := pc_xor (a / 2 ^ (n + 1)) (c / 2 ^ (n + 1))
    rw [xor_div]
    omega
  · simp only [if_neg h]; omega
theorem swaps_right (a b c : Nat) : ∀ n, swaps a (b ^^^ c) n % 2 = (swaps a b n + swaps a c n) % 2 := by
 intro n
 induction n with
 | zero => rfl
 | succ n ih =>
  simp only [swaps]
  rw [bit_xor]
  have h1 := bit_le b n
  have h2 := bit_le c n
  rcases (show bit b n = 0 ∨ bit b n = 1 by omega) with e1 | e1 <;> rcases (show bit c n = 0 ∨ bit c n = 1 by omega) with e2 | e2 <;> simp [e1, e2] <;> omega
/-- 1 or -1: the sign of a number of exchanges. -/
def sg (k : Nat) : Int := if k % 2 = 1 then -1 else 1
theorem sg_add (k l : Nat) : sg (k + l) = sg k * sg l := by
 unfold sg
 rcases Nat.mod_two_eq_zero_or_one k with h | h <;> rcases Nat.mod_two_eq_zero_or_one l with h' | h' <;> simp [Nat.add_mod, h, h']
theorem sg_congr {k l : Nat} (h : k % 2 = l % 2) : sg k = sg l := by unfold sg; rw [h]
/-- The product of the first i squares that both masks have, as an integer. -/
def comZ (sq : List Int) (a b : Nat) : Nat → Int
 | 0 => 1
 | i + 1 => comZ sq a b i * (if bit b i = 1 ∧ bit a i = 1 then sq.getD i 0 else 1)
theorem common_comZ (p : Int) (sq : List Int) (a b : Nat) : ∀ i, common p sq a b i % p = comZ sq a b i % p := by
 intro i
 induction i with
 | zero => rfl
 | succ i ih =>
  simp only [common, comZ]
  split
  · rw [Int.emod_emod_of_dvd _ (Int.dvd_refl p), Int.mul_emod, ih, ← Int.mul_emod]
  · rw [Int.mul_one, ih]
theorem comZ_symm (sq : List Int) (a b : Nat) : ∀ i, comZ sq a b i = comZ sq b a i := by
 intro i
 induction i with
 | zero => rfl
 | succ i ih => simp only [comZ]; rw [ih]; congr 1; simp only [And.comm]
theorem comZ_cocycle (sq : List Int) (a b c : Nat) : ∀ i, comZ sq a b i * comZ sq (a ^^^ b) c i = comZ sq b c i * comZ sq a (b ^^^ c) i := by
 intro i
 induction i with
 | zero => rfl
 | succ i ih =>
  simp only [comZ]
  rw [bit_xor, bit_xor]
  have key : ∀ X Y Z W s t u v : Int, X * Y = Z * W → s * t = u * v → (X * s) * (Y * t) = (Z * u) * (W * v) := fun X Y Z W s t u v h1 h2 => by
   rw [show (X * s) * (Y * t) = (X * Y) * (s * t) by rw [Int.mul_assoc, Int.mul_left_comm s, ← Int.mul_assoc], h1, h2]
   rw [Int.mul_assoc, Int.mul_left_comm W, ← Int.mul_assoc]
  refine key _ _ _ _ _ _ _ _ ih ?_
  have h1 := bit_le a i
  have h2 := bit_le b i
  have h3 := bit_le c i
  rcases (show bit a i = 0 ∨ bit a i = 1 by omega) with e1 | e1 <;> rcases (show bit b i = 0 ∨ bit b i = 1 by omega) with e2 | e2 <;> rcases (show bit c i = 0 ∨ bit c i = 1 by omega) with e3 | e3 <;> simp [e1, e2, e3]
/-- The number by which the product of two blades is that of their different bits, as an integer. -/
def facZ (sq : List Int) (a b : Nat) : Int := sg (swaps a b sq.length) * comZ sq a b sq.length
theorem fac_facZ (p : Int) (sq : List Int) (a b : Nat) : fac p sq a b % p = facZ sq a b % p := by
 unfold fac facZ sg
 split
 · rw [Int.emod_emod_of_dvd _ (Int.dvd_refl p), Int.neg_mul, Int.one_mul, ← Int.zero_sub, ← Int.zero_sub, Int.sub_emod, common_comZ, ← Int.sub_emod]
 · rw [Int.one_mul, common_comZ]
theorem facZ_cocycle (sq : List Int) (a b c : Nat) : facZ sq a b * facZ sq (a ^^^ b) c = facZ sq b c * facZ sq a (b ^^^ c) := by
 unfold facZ
 have hs : sg (swaps a b sq.length) * sg (swaps (a ^^^ b) c sq.length) = sg (swaps b c sq.length) * sg (swaps a (b ^^^ c) sq.length) := by
  rw [← sg_add, ← sg_add]
  apply sg_congr
  have h1 := swaps_left a b c sq.length
  have h2 := swaps_right a b c sq.length
  omega
 have hc := comZ_cocycle sq a b c sq.length
 have key : ∀ X Y Z W s t u v : Int, X * Y = Z * W → s * t = u * v → (X * s) * (Y * t) = (Z * u) * (W * v) := fun X Y Z W s t u v h1 h2 => by
  rw [show (X * s) * (Y * t) = (X * Y) * (s * t) by rw [Int.mul_assoc, Int.mul_left_comm s, ← Int.mul_assoc], h1, h2]
  rw [Int.mul_assoc, Int.mul_left_comm W, ← Int.mul_assoc]
 exact key _ _ _ _ _ _ _ _ hs hc
theorem xor_self_left (a b : Nat) : a ^^^ (a ^^^ b) = b := by rw [← Nat.xor_assoc, Nat.xor_self, Nat.zero_xor]
theorem xor_self_right (a b : Nat) : (b ^^^ a) ^^^ a = b := by rw [Nat.xor_assoc, Nat.xor_self, Nat.xor_zero]
theorem sumTo_xor {n : Nat} (f : Nat → Int) {c : Nat} (hc : c < pw n) : sumTo (pw n) f = sumTo (pw n) fun a => f (a ^^^ c) := by
 have h : ∀ b, b < pw n → f b = sumTo (pw n) fun a => if a ^^^ c = b then f b else 0 := fun b hb => by
  rw [sumTo_one (b ^^^ c) (xor_lt hb hc) fun i _ hne => if_neg fun e => hne (by rw [← e, xor_self_right]), if_pos (xor_self_right c b)]
 rw [sumTo_congr h, sumTo_comm]
 refine sumTo_congr fun a ha => ?_
 rw [sumTo_one (a ^^^ c) (xor_lt ha hc) fun i _ hne => if_neg fun e => hne e.symm, if_pos rfl]
theorem sumTo_mul_right (n : Nat) (f : Nat → Int) (c : Int) : sumTo n (fun i => f i * c) = sumTo n f * c := by
 rw [Int.mul_comm, ← sumTo_mul]
 exact sumTo_congr fun i _ => Int.mul_comm _ _
/-- The product of multivectors over the integers, at place m. -/
def mulZ (sq : List Int) (x y : Nat → Int) (m : Nat) : Int := sumTo (pw sq.length) fun a => x a * y (a ^^^ m) * facZ sq a (a ^^^ m)
theorem mulZ_assoc (sq : List Int) (x y z : Nat → Int) {m : Nat} (hm : m < pw sq.length) : mulZ sq (mulZ sq x y) z m = mulZ sq x (mulZ sq y z) m := by
 unfold mulZ
 rw [sumTo_congr (g := fun c => sumTo (pw sq.length) fun a => x a * y (a ^^^ c) * facZ sq a (a ^^^ c) * (z (c ^^^ m) * facZ sq c (c ^^^ m))) fun c _ => by
  rw [sumTo_mul_right, Int.mul_assoc], sumTo_comm]
 refine sumTo_congr fun a ha => ?_
 rw [sumTo_xor _ ha, ← sumTo_mul, ← sumTo_mul_right]
 refine sumTo_congr fun b hb => ?_
 have e1 : a ^^^ (b ^^^ a) = b := by rw [Nat.xor_comm b, xor_self_left]
 have e2 : (b ^^^ a) ^^^ m = b ^^^ (a ^^^ m) := Nat.xor_assoc _ _ _
 rw [e1, e2]
 have h := facZ_cocycle sq a b (b ^^^ (a ^^^ m))
 rw [xor_self_left, Nat.xor_comm a b] at h
 calc x a * y b * facZ sq a b * (z (b ^^^ (a ^^^ m)) * facZ sq (b ^^^ a) (b ^^^ (a ^^^ m)))
     = x a * y b * z (b ^^^ (a ^^^ m)) * (facZ sq a b * facZ sq (b ^^^ a) (b ^^^ (a ^^^ m))) := by
       rw [Int.mul_assoc (x a * y b), Int.mul_left_comm (facZ sq a b), ← Int.mul_assoc]
   _ = x a * y b * z (b ^^^ (a ^^^ m)) * (facZ sq b (b ^^^ (a ^^^ m)) * facZ sq a (a ^^^ m)) := by rw [h]
   _ = _ := by
       rw [← Int.mul_assoc, Int.mul_assoc (x a), Int.mul_assoc (x a)]
theorem mulZ_cg (p : Int) (sq : List Int) {x x' y y' : Nat → Int} (hx : ∀ a, a < pw sq.length → x a % p = x' a % p) (hy : ∀ a, a < pw sq.length → y a % p = y' a % p) {m : Nat} (hm : m < pw sq.length) : mulZ sq x y m % p = mulZ sq x' y' m % p := by
 unfold mulZ
 refine sumTo_mod p fun a ha => ?_
 have h1 := hx a ha
 have h2 := hy _ (xor_lt ha hm)
 rw [Int.mul_emod, Int.mul_emod (x a), h1, h2, ← Int.mul_emod (x' a), ← Int.mul_emod]
structure Cl (p : Int) (sq : List Int) where
 l : List Int
 len : l.length = pw sq.length
 nums : NumsL p l
 pos : 0 < p
section
variable {p : Int} {sq : List Int}
/-- The number at a place. -/
def Cl.co (x : Cl p sq) (m : Nat) : Int := x.l.getD m 0
theorem Cl.ext {x y : Cl p sq} (h : x.l = y.l) : x = y := by
 cases x; cases y; cases h; rfl
theorem Cl.co_small (x : Cl p sq) (m : Nat) : 0 ≤ x.co m ∧ x.co m < p := x.nums.getD x.pos m
theorem Cl.co_mod (x : Cl p sq) (m : Nat) : x.co m % p = x.co m := Int.emod_eq_of_lt (x.co_small m).1 (x.co_small m).2
theorem Cl.same {x y : Cl p sq} (h : ∀ m, m < pw sq.length → x.co m % p = y.co m % p) : x = y := by
 refine Cl.ext (list_ext_getD 0 (by rw [x.len, y.len]) fun m hm => ?_)
 have := h m (by rw [← x.len]; exact hm)
 rwa [x.co_mod, y.co_mod] at this
/-- The multivector with these numbers. -/
def Cl.of (hp : 0 < p) (f : Nat → Int) : Cl p sq := ⟨tab (pw sq.length) fun m => f m % p, tab_len _ _, NumsL.tab fun _ _ => ⟨Int.emod_nonneg _ (by omega), Int.emod_lt_of_pos _ hp⟩, hp⟩
theorem Cl.of_co (hp : 0 < p) (f : Nat → Int) {m : Nat} (hm : m < pw sq.length) : (Cl.of hp f : Cl p sq).co m = f m % p := tab_getD hm 0
theorem Cl.of_cg (hp : 0 < p) (f : Nat → Int) {m : Nat} (hm : m < pw sq.length) : (Cl.of hp f : Cl p sq).co m % p = f m % p := by rw [Cl.of_co hp f hm, Int.emod_emod_of_dvd _ (Int.dvd_refl p)]
instance : Mul (Cl p sq) := ⟨fun x y => Cl.of x.pos (mulZ sq x.co y.co)⟩
instance : Add (Cl p sq) := ⟨fun x y => Cl.of x.pos fun m => x.co m + y.co m⟩
instance : Neg (Cl p sq) := ⟨fun x => Cl.of x.pos fun m => -(x.co m)⟩
instance : HMul Int (Cl p sq) (Cl p sq) := ⟨fun k x => Cl.of x.pos fun m => k * x.co m⟩
theorem Cl.mul_co (x y : Cl p sq) {m : Nat} (hm : m < pw sq.length) : (x * y).co m % p = mulZ sq x.co y.co m % p := Cl.of_cg _ _ hm
theorem Cl.add_co (x y : Cl p sq) {m : Nat} (hm : m < pw sq.length) : (x + y).co m % p = (x.co m + y.co m) % p := Cl.of_cg _ _ hm
theorem Cl.sm_co (k : Int) (x : Cl p sq) {m : Nat} (hm : m < pw sq.length) : (k * x).co m % p = (k * x.co m) % p := Cl.of_cg _ _ hm
theorem Cl.mul_assoc (x y z : Cl p sq) : x * y * z = x * (y * z) := Cl.same fun m hm => by
 rw [Cl.mul_co _ _ hm, Cl.mul_co _ _ hm, mulZ_cg p sq (fun a ha => Cl.mul_co x y ha) (fun _ _ => rfl) hm, mulZ_assoc sq _ _ _ hm]
 exact mulZ_cg p sq (fun _ _ => rfl) (fun a ha => (Cl.mul_co y z ha).symm) hm
theorem Cl.add_mul (x y z : Cl p sq) : (x + y) * z = x * z + y * z := Cl.same fun m hm => by
 rw [Cl.mul_co _ _ hm, mulZ_cg p sq (fun a ha => Cl.add_co x y ha) (fun _ _ => rfl) hm, Cl.add_co _ _ hm, Int.add_emod, Cl.mul_co _ _ hm, Cl.mul_co _ _ hm, ← Int.add_emod]
 unfold mulZ
 rw [← sumTo_add]
 congr 1
 exact sumTo_congr fun a _ => by rw [Int.add_mul, Int.add_mul]
theorem Cl.mul_add (x y z : Cl p sq) : x * (y + z) = x * y + x * z := Cl.same fun m hm => by
 rw [Cl.mul_co _ _ hm, mulZ_cg p sq (fun _ _ => rfl) (fun a ha => Cl.add_co y z ha) hm, Cl.add_co _ _ hm, Int.add_emod, Cl.mul_co _ _ hm, Cl.mul_co _ _ hm, ← Int.add_emod]
 unfold mulZ
 rw [← sumTo_add]
 congr 1
 exact sumTo_congr fun a _ => by rw [Int.mul_add, Int.add_mul]
theorem Cl.sm_mul (k : Int) (x y : Cl p sq) : (k * x) * y = k * (x * y) := Cl.same fun m hm => by
 rw [Cl.mul_co _ _ hm, mulZ_cg p sq (fun a ha => Cl.sm_co k x ha) (fun _ _ => rfl) hm, Cl.sm_co _ _ hm, Int.mul_emod k, Cl.mul_co _ _ hm, ← Int.mul_emod]
 unfold mulZ
 rw [← sumTo_mul]
 congr 1
 exact sumTo_congr fun a _ => by rw [Int.mul_assoc, Int.mul_assoc, Int.mul_assoc]
theorem Cl.mul_sm (k : Int) (x y : Cl p sq) : x * (k * y) = k * (x * y) := Cl.same fun m hm => by
 rw [Cl.mul_co _ _ hm, mulZ_cg p sq (fun _ _ => rfl) (fun a ha => Cl.sm_co k y ha) hm, Cl.sm_co _ _ hm, Int.mul_emod k, Cl.mul_co _ _ hm, ← Int.mul_emod]
 unfold mulZ
 rw [← sumTo_mul]
 congr 1
 exact sumTo_congr fun a _ => by rw [Int.mul_left_comm, Int.mul_assoc, Int.mul_assoc]
theorem Cl.add_comm (x y : Cl p sq) : x + y = y + x := Cl.same fun m hm => by rw [Cl.add_co _ _ hm, Cl.add_co _ _ hm, Int.add_comm]
theorem Cl.add_assoc (x y z : Cl p sq) : x + y + z = x + (y + z) := Cl.same fun m hm => by
 rw [Cl.add_co _ _ hm, Cl.add_co _ _ hm, Int.add_emod, Cl.add_co _ _ hm, ← Int.add_emod, Int.add_emod (x.co m), Cl.add_co _ _ hm, ← Int.add_emod, Int.add_assoc]
theorem Cl.sm_sm (k j : Int) (x : Cl p sq) : k * (j * x) = (k * j) * x := Cl.same fun m hm => by
 rw [Cl.sm_co _ _ hm, Int.mul_emod, Cl.sm_co _ _ hm, ← Int.mul_emod, Cl.sm_co _ _ hm, Int.mul_assoc]
theorem Cl.sm_add (k : Int) (x y : Cl p sq) : k * (x + y) = k * x + k * y := Cl.same fun m hm => by
 rw [Cl.sm_co _ _ hm, Int.mul_emod, Cl.add_co _ _ hm, ← Int.mul_emod, Cl.add_co _ _ hm, Int.add_emod, Cl.sm_co _ _ hm, Cl.sm_co _ _ hm, ← Int.add_emod, Int.mul_add]
theorem Cl.add_sm (k j : Int) (x : Cl p sq) : (k + j) * x = k * x + j * x := Cl.same fun m hm => by
 rw [Cl.sm_co _ _ hm, Cl.add_co _ _ hm, Int.add_emod, Cl.sm_co _ _ hm, Cl.sm_co _ _ hm, ← Int.add_emod, Int.add_mul]
theorem Cl.sm_cg {k j : Int} (h : k % p = j % p) (x : Cl p sq) : k * x = j * x := Cl.same fun m hm => by
 rw [Cl.sm_co _ _ hm, Cl.sm_co _ _ hm, Int.mul_emod, h, ← Int.mul_emod]
theorem Cl.one_sm (x : Cl p sq) : (1 : Int) * x = x := Cl.same fun m hm => by rw [Cl.sm_co _ _ hm, Int.one_mul]
/-- The numbers of a list, and no more than there are places. -/
def Cl.zero (hp : 0 < p) : Cl p sq := Cl.of hp fun _ => 0
theorem Cl.zero_sm (x : Cl p sq) : (0 : Int) * x = Cl.zero x.pos := Cl.same fun m hm => by
 rw [Cl.sm_co _ _ hm]; unfold Cl.zero; rw [Cl.of_cg _ _ hm, Int.zero_mul]
theorem Cl.add_zero (x : Cl p sq) (hp : 0 < p) : x + Cl.zero hp = x := Cl.same fun m hm => by
 rw [Cl.add_co _ _ hm, Int.add_emod]; unfold Cl.zero; rw [Cl.of_cg _ _ hm, ← Int.add_emod, Int.add_zero]
/-- The multivector 1. -/
def Cl.one (hp : 0 < p) : Cl p sq := Cl.of hp fun m => if m = 0 then 1 else 0
theorem Cl.one_co (hp : 0 < p) {m : Nat} (hm : m < pw sq.length) : (Cl.one hp : Cl p sq).co m % p = (if m = 0 then 1 else 0) % p := Cl.of_cg _ _ hm
theorem swaps_zero_right (a : Nat) : ∀ n, swaps a 0 n = 0 := by
 intro n
 induction n with
 | zero => rfl
 | succ n ih => simp [swaps, ih, bit_zero]
theorem swaps_zero_left (b : Nat) : ∀ n, swaps 0 b n = 0 := by
 intro n
 induction n with
 | zero => rfl
 | succ n ih => simp [swaps, ih, pc_zero]
theorem comZ_zero_left (sq : List Int) (b : Nat) : ∀ n, comZ sq 0 b n = 1 := by
 intro n
 induction n with
 | zero => rfl
 | succ n ih => simp [comZ, ih, bit_zero]
theorem facZ_zero_left (sq : List Int) (b : Nat) : facZ sq 0 b = 1 := by unfold facZ; rw [swaps_zero_left, comZ_zero_left]; rfl
theorem facZ_zero_right (sq : List Int) (a : Nat) : facZ sq a 0 = 1 := by unfold facZ; rw [swaps_zero_right, comZ_symm, comZ_zero_left]; rfl
theorem mulZ_one_left (sq : List Int) (x : Nat → Int) (m : Nat) : mulZ sq (fun m => if m = 0 then 1 else 0) x m = x m := by
 unfold mulZ
 rw [sumTo_one 0 (pw_pos _) fun i _ h => by dsimp only; rw [if_neg h, Int.zero_mul, Int.zero_mul]]
 dsimp only
 rw [if_pos rfl, Nat.zero_xor, facZ_zero_left, Int.one_mul, Int.mul_one]
theorem mulZ_one_right (sq : List Int) (x : Nat → Int) {m : Nat} (hm : m < pw sq.length) : mulZ sq x (fun m => if m = 0 then 1 else 0) m = x m := by
 unfold mulZ
 rw [sumTo_one m hm fun i _ h => by dsimp only; rw [if_neg (fun e => h (by have := (xor_eq_iff i m 0).1 e; rw [this, Nat.xor_zero])), Int.mul_zero, Int.zero_mul]]
 dsimp only
 rw [Nat.xor_self, if_pos rfl, facZ_zero_right, Int.mul_one, Int.mul_one]
theorem Cl.one_mul (hp : 0 < p) (x : Cl p sq) : Cl.one hp * x = x := Cl.same fun m hm => by
 rw [Cl.mul_co _ _ hm, mulZ_cg p sq (fun a ha => Cl.one_co hp ha) (fun _ _ => rfl) hm, mulZ_one_left]
theorem Cl.mul_one (hp : 0 < p) (x : Cl p sq) : x * Cl.one hp = x := Cl.same fun m hm => by
 rw [Cl.mul_co _ _ hm, mulZ_cg p sq (fun _ _ => rfl) (fun a ha => Cl.one_co hp ha) hm, mulZ_one_right sq _ hm]
theorem mulL_co {n : Nat} (hn : sq.length = n) {xs ys : List Int} (hx : xs.length = pw n) (hy : ys.length = pw n) {m : Nat} (hm : m < pw n) : (mulL p sq xs ys).getD m 0 % p = mulZ sq (fun a => xs.getD a 0) (fun a => ys.getD a 0) m % p := by
 subst hn
 unfold mulL
 rw [prodL_getD p sq _ xs ys _ m hx hy hm, Int.emod_emod_of_dvd _ (Int.dvd_refl p)]
 unfold mulZ
 refine sumTo_mod p fun a _ => ?_
 unfold term
 rw [if_pos rfl, Int.mul_emod, fac_facZ, ← Int.mul_emod]
theorem Cl.mul_l (x y : Cl p sq) : (x * y).l = mulL p sq x.l y.l := by
 refine list_ext_getD 0 (by rw [(x * y).len, mulL_len, x.len]) fun m hm => ?_
 rw [(x * y).len] at hm
 have h1 := (x * y).co_mod m
 have h2 := Cl.mul_co x y hm
 have h3 := mulL_co (p := p) rfl x.len y.len hm
 have h4 := (mulL_nums x.pos sq x.l y.l).getD x.pos m
 rw [Int.emod_eq_of_lt h4.1 h4.2] at h3
 rw [h3]
 rw [h1] at h2
 exact h2
theorem Cl.one_l (hp : 2 ≤ p) : (Cl.one (by omega) : Cl p sq).l = bladeL sq.length 0 := by
 refine list_ext_getD 0 (by rw [Cl.len, bladeL_len]) fun m hm => ?_
 rw [Cl.len] at hm
 rw [bladeL_getD _ _ _ hm]
 show (Cl.one _ : Cl p sq).co m = _
 unfold Cl.one
 rw [Cl.of_co _ _ hm]
 by_cases h : m = 0
 · rw [if_pos h, if_pos h.symm, Int.emod_eq_of_lt (by omega) (by omega)]
 · rw [if_neg h, if_neg (fun e => h e.symm), Int.zero_emod]
theorem Cl.add_l (x y : Cl p sq) (k : Int) : (x + k * y).l = plusL p x.l y.l k := by
 refine list_ext_getD 0 (by rw [Cl.len, plusL_len, x.len]) fun m hm => ?_
 rw [Cl.len] at hm
 rw [plusL_getD _ _ (by rw [x.len]; exact hm)]
 have h1 := (x + k * y).co_mod m
 rw [Cl.add_co _ _ hm, Int.add_emod, Cl.sm_co _ _ hm, ← Int.add_emod] at h1
 exact h1.symm
theorem Cl.sm_l (x : Cl p sq) (k : Int) : (k * x).l = scaleL p x.l k := by
 refine list_ext_getD 0 (by rw [Cl.len, scaleL_len, x.len]) fun m hm => ?_
 rw [Cl.len] at hm
 rw [scaleL_getD _ (by rw [x.len]; exact hm)]
 have h1 := (k * x).co_mod m
 rw [Cl.sm_co _ _ hm, Int.mul_comm] at h1
 exact h1.symm
end
/-- The sign of a blade when it is reversed, and when it is involuted. -/
def sgR (a : Nat) : Int := if revT (pc a) then -1 else 1
section
variable {p : Int} {sq : List Int}
def Cl.rev (x : Cl p sq) : Cl p sq := Cl.of x.pos fun m => sgR m * x.co m
def Cl.vec (hp : 0 < p) (v : List Int) : Cl p sq := Cl.of hp fun b => sumTo sq.length fun i => if b = 2 ^ i then v.getD i 0 else 0
theorem Cl.vec_co (hp : 0 < p) (v : List Int) {m : Nat} (hm : m < pw sq.length) : (Cl.vec hp v : Cl p sq).co m % p = (sumTo sq.length fun i => if m = 2 ^ i then v.getD i 0 else 0) % p := Cl.of_cg _ _ hm
theorem pow_inj {i j : Nat} (h : (2 : Nat) ^ i = 2 ^ j) : i = j := (Nat.pow_right_inj (by decide)).1 h
theorem bit_pow (i j : Nat) : bit (2 ^ i) j = if i = j then 1 else 0 := by
 rw [bit_eq, Nat.testBit_two_pow]
 by_cases h : i = j <;> simp [h]
theorem pc_pow (i : Nat) : pc (2 ^ i) = 1 := by
 rw [pc_pcn (i + 1) _ (Nat.pow_lt_pow_right (by decide) (by omega)), pcn, bit_pow, if_pos rfl]
 have : ∀ k, k ≤ i → pcn (2 ^ i) k = 0 := by
  intro k
  induction k with
  | zero => intro _; rfl
  | succ k ih => intro hk; rw [pcn, ih (by omega), bit_pow, if_neg (by omega)]
 rw [this i (Nat.le_refl _)]
theorem swaps_pow (a j : Nat) : ∀ k, swaps a (2 ^ j) k = if j < k then pc (a / 2 ^ (j + 1)) else 0 := by
 intro k
 induction k with
 | zero => rfl
 | succ k ih =>
  simp only [swaps]
  rw [ih, bit_pow]
  by_cases h1 : j = k
  · subst h1; simp
  · by_cases h2 : j < k
    · simp [h1, h2, show j < k + 1 by omega]
    · simp [h1, h2, show ¬ j < k + 1 by omega]
theorem comZ_pow (sq : List Int) (i j : Nat) : ∀ k, comZ sq (2 ^ i) (2 ^ j) k = if i = j ∧ i < k then sq.getD i 0 else 1 := by
 intro k
 induction k with
 | zero => simp [comZ]
 | succ k ih =>
  simp only [comZ]
  rw [ih, bit_pow, bit_pow]
  by_cases h : i = j
  · subst h
    by_cases h1 : i = k
    · subst h1; simp
    · by_cases h2 : i < k
      · simp [h1, h2, show i < k + 1 by omega]
      · simp [h1, h2, show ¬ i < k + 1 by omega]
  · simp only [h, false_and, if_false]
    rw [if_neg, Int.mul_one]
    rintro ⟨h1, h2⟩
    split at h1
    · split at h2
      · omega
      · cases h2
    · cases h1
theorem facZ_same (sq : List Int) {i : Nat} (hi : i < sq.length) : facZ sq (2 ^ i) (2 ^ i) = sq.getD i 0 := by
 unfold facZ
 rw [swaps_pow, if_pos hi, comZ_pow, if_pos ⟨rfl, hi⟩, Nat.div_eq_of_lt (Nat.pow_lt_pow_right (by decide) (by omega)), pc_zero]
 show 1 * _ = _
 rw [Int.one_mul]
theorem facZ_less (sq : List Int) {i j : Nat} (h : i < j) (hj : j < sq.length) : facZ sq (2 ^ i) (2 ^ j) = 1 ∧ facZ sq (2 ^ j) (2 ^ i) = -1 := by
 unfold facZ
 rw [swaps_pow, if_pos hj, comZ_pow, if_neg (by omega), swaps_pow, if_pos (by omega), comZ_pow, if_neg (by omega), Nat.div_eq_of_lt (Nat.pow_lt_pow_right (by decide) (by omega)), pc_zero]
 refine ⟨rfl, ?_⟩
 rw [Nat.pow_div (by omega) (by decide), pc_pow]
 rfl
theorem facZ_both (sq : List Int) {i j : Nat} (hi : i < sq.length) (hj : j < sq.length) : facZ sq (2 ^ i) (2 ^ j) + facZ sq (2 ^ j) (2 ^ i) = if i = j then 2 * sq.getD i 0 else 0 := by
 rcases Nat.lt_trichotomy i j with h | h | h
 · rw [(facZ_less sq h hj).1, (facZ_less sq h hj).2, if_neg (by omega)]; rfl
 · subst h; rw [facZ_same sq hi, if_pos rfl]; omega
 · rw [(facZ_less sq h hi).1, (facZ_less sq h hi).2, if_neg (by omega)]; rfl
/-- The product of two vectors, over the integers. -/
def bil (sq v u : List Int) : Int := sumTo sq.length fun i => v.getD i 0 * u.getD i 0 * sq.getD i 0
/-- The product of vectors, at a place. -/
theorem mulZ_vec (sq u v : List Int) {m : Nat} (hm : m < pw sq.length) :
    mulZ sq (fun b => sumTo sq.length fun i => if b = 2 ^ i then u.getD i 0 else 0) (fun b => sumTo sq.length fun i => if b = 2 ^ i then v.getD i 0 else 0) m
     = sumTo sq.length fun i => sumTo sq.length fun j => if 2 ^ i ^^^ 2 ^ j = m then u.getD i 0 * v.getD j 0 * facZ sq (2 ^ i) (2 ^ j) else 0 := by
 unfold mulZ
 rw [sumTo_congr (g := fun a => sumTo sq.length fun i => if a = 2 ^ i then sumTo sq.length fun j => if 2 ^ i ^^^ 2 ^ j = m then u.getD i 0 * v.getD j 0 * facZ sq (2 ^ i) (2 ^ j) else 0 else 0) fun a ha => ?_, sumTo_comm]
 · refine sumTo_congr fun i hi => ?_
   rw [sumTo_one (2 ^ i) (two_lt hi) fun a _ hne => if_neg hne, if_pos rfl]
 · rw [← sumTo_mul_right, ← sumTo_mul_right]
   refine sumTo_congr fun i _ => ?_
   by_cases h : a = 2 ^ i
   · rw [if_pos h, if_pos h, ← sumTo_mul, ← sumTo_mul_right]
     refine sumTo_congr fun j _ => ?_
     by_cases h2 : 2 ^ i ^^^ 2 ^ j = m
     · rw [if_pos h2, h, if_pos ((xor_eq_iff _ _ _).1 h2).symm, ← (xor_eq_iff _ _ _).1 h2]
     · rw [if_neg h2, h, if_neg (fun e => h2 ((xor_eq_iff _ _ _).2 e.symm)), Int.mul_zero, Int.zero_mul]
   · rw [if_neg h, if_neg h, Int.zero_mul, Int.zero_mul]
/-- Vectors: the sum of both products is twice the number of the product. -/
theorem Cl.vec_anti (hp : 0 < p) (u v : List Int) : (Cl.vec hp u : Cl p sq) * Cl.vec hp v + Cl.vec hp v * Cl.vec hp u = (2 * bil sq u v) * Cl.one hp := Cl.same fun m hm => by
 rw [Cl.add_co _ _ hm, Int.add_emod, Cl.mul_co _ _ hm, Cl.mul_co _ _ hm, mulZ_cg p sq (fun a ha => Cl.vec_co hp u ha) (fun a ha => Cl.vec_co hp v ha) hm,
  mulZ_cg p sq (fun a ha => Cl.vec_co hp v ha) (fun a ha => Cl.vec_co hp u ha) hm, ← Int.add_emod, mulZ_vec sq u v hm, mulZ_vec sq v u hm, Cl.sm_co _ _ hm, Int.mul_emod (2 * _), Cl.one_co hp hm, ← Int.mul_emod]
 congr 1
 rw [sumTo_comm sq.length sq.length (fun i j => if 2 ^ i ^^^ 2 ^ j = m then v.getD i 0 * u.getD j 0 * facZ sq (2 ^ i) (2 ^ j) else 0), ← sumTo_add]
 unfold bil
 rw [← sumTo_mul, ← sumTo_mul_right]
 refine sumTo_congr fun i hi => ?_
 rw [← sumTo_add]
 have key : ∀ j, j < sq.length → ((if 2 ^ i ^^^ 2 ^ j = m then u.getD i 0 * v.getD j 0 * facZ sq (2 ^ i) (2 ^ j) else 0) + if 2 ^ j ^^^ 2 ^ i = m then v.getD j 0 * u.getD i 0 * facZ sq (2 ^ j) (2 ^ i) else 0) = if 2 ^ i ^^^ 2 ^ j = m then u.getD i 0 * v.getD j 0 * (if i = j then 2 * sq.getD i 0 else 0) else 0 := fun j hj => by
  rw [Nat.xor_comm (2 ^ j)]
  by_cases h : 2 ^ i ^^^ 2 ^ j = m
  · rw [if_pos h, if_pos h, if_pos h, Int.mul_comm (v.getD j 0), ← Int.mul_add, facZ_both sq hi hj]
  · rw [if_neg h, if_neg h, if_neg h]; rfl
 rw [sumTo_congr key, sumTo_one i hi fun j _ hne => by
  split
  · rw [if_neg (fun e => hne e.symm), Int.mul_zero]
  · rfl]
 rw [if_pos rfl, Nat.xor_self]
 by_cases h : m = 0
 · rw [if_pos h, if_pos h.symm, Int.mul_one, Int.mul_left_comm]
 · rw [if_neg h, if_neg (fun e => h e.symm), Int.mul_zero]
end
theorem half_ok {p : Int} (hP : isP p = true) : (p + 1) / 2 * 2 % p = 1 % p := by
 simp only [isP, Bool.or_eq_true, beq_iff_eq] at hP
 rcases hP with (((rfl | rfl) | rfl) | rfl) | rfl <;> decide
theorem inv_mod {p a : Int} (hP : isP p = true) (h : a % p ≠ 0) : a * invF p (a % p) % p = 1 := by
 have h3 := (isP_ge hP).1
 have h1 := Int.emod_nonneg a (show p ≠ 0 by omega)
 have h2 := Int.emod_lt_of_pos a (show 0 < p by omega)
 have hs := inv_spec hP (show 0 < a % p by omega) h2
 have := (hs.2.2 (invF p (a % p)) (by omega) hs.2.1).2 rfl
 rw [Int.mul_emod, Int.emod_emod_of_dvd _ (Int.dvd_refl p)] at this
 rw [Int.mul_emod]
 exact this
section
variable {p : Int} {sq : List Int}
theorem Cl.two (x : Cl p sq) : x + x = (2 : Int) * x := by
 have := Cl.add_sm 1 1 x
 rw [Cl.one_sm] at this
 exact this.symm
theorem Cl.half {x y : Cl p sq} (hP : isP p = true) (h : (2 : Int) * x = (2 : Int) * y) : x = y := by
 have e : ∀ z : Cl p sq, ((p + 1) / 2 : Int) * ((2 : Int) * z) = z := fun z => by rw [Cl.sm_sm, Cl.sm_cg (half_ok hP), Cl.one_sm]
 rw [← e x, h, e y]
theorem Cl.vec_sq (hp : 0 < p) (hP : isP p = true) (v : List Int) : (Cl.vec hp v : Cl p sq) * Cl.vec hp v = bil sq v v * Cl.one hp := by
 refine Cl.half hP ?_
 rw [← Cl.two, Cl.vec_anti, Cl.sm_sm]
theorem pairL_bil {v u : List Int} (hv : v.length = sq.length) : pairL p sq v u % p = bil sq v u % p := by
 rw [pairL_sum hv, Int.emod_emod_of_dvd _ (Int.dvd_refl p)]
 unfold bil
 refine sumTo_mod p fun i _ => ?_
 rw [Int.mul_emod, Int.emod_emod_of_dvd _ (Int.dvd_refl p), ← Int.mul_emod]
end
section
variable {p : Int} {sq : List Int}
theorem mul_ne {p : Int} (hP : isP p = true) {a b : Int} (ha : a % p ≠ 0) (hb : b % p ≠ 0) : a * b % p ≠ 0 := fun h => by
 have h3 := (isP_ge hP).1
 rw [Int.mul_emod] at h
 rcases mul_zero_mod hP (emod_small a p (by omega)) (emod_small b p (by omega)) h with h | h
 · exact ha h
 · exact hb h
theorem only_iff {ys : List Int} (hl : ys.length ≤ 64) (k : Nat) : onlyL ys k = true ↔ ∀ i, i < ys.length → pc i ≠ k → ys.getD i 0 = 0 := by
 unfold onlyL
 rw [Bool.not_eq_true', List.any_eq_false]
 constructor
 · intro h i hi hne
   by_cases h0 : ys.getD i 0 = 0
   · exact h0
   · have := h _ ((gradesL_mem ys hl _).2 ⟨i, hi, h0, rfl⟩)
     simp at this
     omega
 · intro h g hg
   obtain ⟨i, hi, h0, rfl⟩ := (gradesL_mem ys hl _).1 hg
   by_cases hp : pc i = k
   · simp [hp]
   · exact absurd (h i hi hp) h0
theorem Cl.only_co (h6 : sq.length ≤ 6) (x : Cl p sq) (k : Nat) : onlyL x.l k = true ↔ ∀ m, m < pw sq.length → pc m ≠ k → x.co m = 0 := by
 rw [only_iff (by rw [x.len]; exact pw_le (k := 6) h6), x.len]; rfl
theorem pc_zero_iff {m : Nat} (h : pc m = 0) : m = 0 := by
 have : ∀ k a, a < 2 ^ k → pc a = 0 → a = 0 := by
  intro k
  induction k with
  | zero => intro a ha _; omega
  | succ k ih =>
   intro a ha hz
   rw [pc_rec] at hz
   have := ih (a / 2) (by rw [Nat.pow_succ] at ha; omega) (by omega)
   omega
 exact this m m Nat.lt_two_pow_self h
theorem pc_one_iff {m : Nat} (h : pc m = 1) : ∃ i, m = 2 ^ i := by
 have : ∀ k a, a < 2 ^ k → pc a = 1 → ∃ i, a = 2 ^ i := by
  intro k
  induction k with
  | zero =>
   intro a ha hz
   obtain rfl : a = 0 := by omega
   rw [pc_zero] at hz
   omega
  | succ k ih =>
   intro a ha hz
   rw [pc_rec] at hz
   rcases Nat.mod_two_eq_zero_or_one a with h0 | h1
   · obtain ⟨i, hi⟩ := ih (a / 2) (by rw [Nat.pow_succ] at ha; omega) (by omega)
     exact ⟨i + 1, by rw [Nat.pow_succ]; omega⟩
   · have := pc_zero_iff (show pc (a / 2) = 0 by omega)
     exact ⟨0, by simp; omega⟩
 exact this m m Nat.lt_two_pow_self h
/-- Only grade 1: a vector. -/
theorem Cl.only_one (h6 : sq.length ≤ 6) (hp : 0 < p) (x : Cl p sq) : onlyL x.l 1 = true ↔ x = Cl.vec hp (partL sq.length x.l) := by
 have h := x.only_co h6 1
 have hat : ∀ i, i < sq.length → (partL sq.length x.l).getD i 0 = x.co (2 ^ i) := fun i hi => by
  unfold partL
  rw [getD_of_lt 0 (by simpa using hi), List.getElem_map, List.getElem_range]; rfl
 refine h.trans ⟨fun h0 => Cl.same fun m hm => ?_, fun e m hm hne => ?_⟩
 · rw [Cl.vec_co hp _ hm]
   by_cases hz : pc m = 1
   · obtain ⟨i, rfl⟩ := pc_one_iff hz
     have hi : i < sq.length := by
      rcases Nat.lt_or_ge i sq.length with h | h
      · exact h
      · have := Nat.pow_le_pow_right (show 0 < 2 by decide) h
        unfold pw at hm; omega
     rw [sumTo_one i hi fun j hj hne => if_neg fun e => hne (pow_inj e).symm, if_pos rfl, hat i hi]
   · rw [h0 m hm hz, sumTo_zero fun i _ => if_neg fun e => hz (by rw [e, pc_pow])]
 · have e1 : x.co m = (Cl.vec hp (partL sq.length x.l) : Cl p sq).co m := congrArg (fun y : Cl p sq => y.co m) e
   rw [e1, ← Cl.co_mod, Cl.vec_co hp _ hm, sumTo_zero fun i _ => if_neg fun e => hne (by rw [e, pc_pow]), Int.zero_emod]
/-- A vector is a sum of multiples of unit vectors. -/
def Cl.sum (hp : 0 < p) : Nat → (Nat → Cl p sq) → Cl p sq
 | 0, _ => Cl.zero hp
 | n + 1, f => Cl.sum hp n f + f n
theorem Cl.zero_co (hp : 0 < p) {m : Nat} (hm : m < pw sq.length) : (Cl.zero hp : Cl p sq).co m % p = 0 := by
 unfold Cl.zero; rw [Cl.of_cg _ _ hm, Int.zero_emod]
theorem Cl.sum_co (hp : 0 < p) (f : Nat → Cl p sq) {m : Nat} (hm : m < pw sq.length) : ∀ n, (Cl.sum hp n f).co m % p = (sumTo n fun i => (f i).co m) % p := by
 intro n
 induction n with
 | zero => rw [show Cl.sum hp 0 f = Cl.zero hp from rfl, Cl.zero_co hp hm]; rfl
 | succ n ih =>
  rw [show Cl.sum hp (n + 1) f = Cl.sum hp n f + f n from rfl, Cl.add_co _ _ hm, Int.add_emod, ih, ← Int.add_emod, sumTo_succ]
theorem Cl.zero_mul (hp : 0 < p) (x : Cl p sq) : Cl.zero hp * x = Cl.zero hp := by
 have := Cl.zero_sm (x := (Cl.one hp : Cl p sq))
 rw [← this, Cl.sm_mul, Cl.one_mul, Cl.zero_sm, Cl.zero_sm]
theorem Cl.mul_zero (hp : 0 < p) (x : Cl p sq) : x * Cl.zero hp = Cl.zero hp := by
 have := Cl.zero_sm (x := (Cl.one hp : Cl p sq))
 rw [← this, Cl.mul_sm, Cl.mul_one, Cl.zero_sm, Cl.zero_sm]
theorem Cl.mul_sum (hp : 0 < p) (x y : Cl p sq) (f : Nat → Cl p sq) : ∀ n, x * Cl.sum hp n f * y = Cl.sum hp n fun i => x * f i * y := by
 intro n
 induction n with
 | zero => show x * Cl.zero hp * y = Cl.zero hp; rw [Cl.mul_zero, Cl.zero_mul]
 | succ n ih => show x * (Cl.sum hp n f + f n) * y = _; rw [Cl.mul_add, Cl.add_mul, ih]; rfl
end
end Go.Proofs.YtmkjdpnoloofjaaGreat
namespace Go.Proofs.YtmkjdpnoloofjaaGreat
open Go.RowKit
set_option maxHeartbeats 800000 in
set_option maxRecDepth 8000 in
theorem norm_any (P : Int) (A : Option Addr) (n c : Nat) (sq : List Int) (X : Option Addr) (cx : Nat) (v : List Int) (w : World) (hp : 2 ≤ P) (hp2 : P ≤ 13) (hn : n ≤ 6) (ha : Rd w A n (ints sq)) (hs : NumsL P sq) (hx : Rd w X n (ints v)) (hv : NumsL P v) :
    Calls Tryz.prog 114 #[.agg #[.int .i64 P, .slice A n c], .slice X n cx] w fun e w' => e = .returned (.int .i64 (pairL P sq v v)) ∧ Below w.heap.size w w' := by
 have hB0 : Below w.heap.size w (w.alloc (.cells #[.int .i64 P, .slice A n c] 26)) := zG.alloc (Nat.le_refl _) _
 have k0 : Blk (w.alloc (.cells #[.int .i64 P, .slice A n c] 26)) w.heap.size 26 #[.int .i64 P, .slice A n c] := Blk.new _ _ _
 have hpr := pair_any P A n c sq X cx v X cx v (w.alloc (.cells #[.int .i64 P, .slice A n c] 26)) hp hp2 hn (ha.below hB0) hs (hx.below hB0) hv (hx.below hB0) hv
 obtain ⟨q0, q1⟩ := k0.two
 go_enter Tryz.func114, Tryz.ntmps114
 go_wp2_with fail
 refine hpr.mono ?_
 rintro e w2 ⟨rfl, hb⟩
 go_wp2
 go_ret
 exact ⟨rfl, hB0.trans (hb.mono hB0.size)⟩
theorem pairL_small {P : Int} (hp : 2 ≤ P) (sq v u : List Int) : 0 ≤ pairL P sq v u ∧ pairL P sq v u < P := by
 unfold pairL dotL
 exact ⟨Int.emod_nonneg _ (by omega), Int.emod_lt_of_pos _ (by omega)⟩
theorem l01Same_b {b : Bool} (A B : Option Addr) (n m c d : Nat) (xs ys : List Int) (w : World) (hn : n ≤ 1099511627776) (hm : m ≤ 1099511627776) (ha : Rd w A n (ints xs)) (hb : Rd w B m (ints ys)) (h : decide (xs = ys) = b) :
    Calls Tryz.prog 179 #[.slice A n c, .slice B m d] w fun e w' => e = .returned (.bool b) ∧ ∃ j, w' = w.drewN j := h ▸ l01Same_any A B n m c d xs ys w hn hm ha hb
theorem rootF_spec (p a : Int) : ∀ (k i : Nat) (r : Int), rootF p a k i = some r → (i : Int) ≤ r ∧ r < (i : Int) + k ∧ (r * r) % p = a := by
 intro k
 induction k with
 | zero => intro i r h; simp [rootF] at h
 | succ k ih =>
  intro i r h
  unfold rootF at h
  split at h
  · rename_i hh
    injection h with h
    subst h
    exact ⟨by omega, by omega, hh⟩
  · obtain ⟨h1, h2, h3⟩ := ih (i + 1) r h
    exact ⟨by omega, by omega, h3⟩
end Go.Proofs.YtmkjdpnoloofjaaGreat
namespace Go.Proofs.YtmkjdpnoloofjaaGreat
section
variable {P : Int} {sq xs ys : List Int}
end
theorem codeM_mk {P : Int} {sq : List Int} {ms : List (List Int)} (h1 : isSp P sq = true) (h : ∀ ys ∈ ms, ys.length = pw sq.length ∧ NumsL P ys) : codeM P sq ms = 0 := by
 unfold codeM
 rw [if_pos h1, if_neg]
 intro hh
 obtain ⟨ys, hy, e⟩ := List.any_eq_true.1 hh
 obtain ⟨h2, h3⟩ := h ys hy
 have h4 : isMu P sq ys = true := by
  unfold isMu nums
  rw [h2, Bool.and_eq_true]
  refine ⟨by simp, List.all_eq_true.2 fun x hx => ?_⟩
  have := h3 x hx
  simp [inR]
  omega
 rw [h4] at e
 simp at e
section
variable {p : Int} {sq : List Int}
theorem cg_wit {p a b : Int} : a % p = b % p ↔ ∃ k, a = b + p * k := by
 constructor
 · intro h
   have h1 := Int.emod_add_mul_ediv a p
   have h2 := Int.emod_add_mul_ediv b p
   exact ⟨a / p - b / p, by grind⟩
 · rintro ⟨k, rfl⟩
   rw [Int.add_mul_emod_self_left]
end
section
variable {p : Int} {sq : List Int}
instance : Std.Associative (α := Cl p sq) (· + ·) := ⟨Cl.add_assoc⟩
instance : Std.Commutative (α := Cl p sq) (· + ·) := ⟨Cl.add_comm⟩
theorem Cl.gone (X : Cl p sq) : (-1 : Int) * X + X = Cl.zero X.pos := by
 have h : X = (1 : Int) * X := (Cl.one_sm X).symm
 calc (-1 : Int) * X + X = (-1 : Int) * X + (1 : Int) * X := by rw [← h]
   _ = ((-1 + 1 : Int)) * X := (Cl.add_sm _ _ _).symm
   _ = (0 : Int) * X := rfl
   _ = _ := Cl.zero_sm X
theorem Cl.sum_ind (hp : 0 < p) (Pr : Cl p sq → Prop) (h0 : Pr (Cl.zero hp)) (ha : ∀ a b, Pr a → Pr b → Pr (a + b)) (f : Nat → Cl p sq) : ∀ n, (∀ i, i < n → Pr (f i)) → Pr (Cl.sum hp n f)
 | 0, _ => h0
 | n + 1, h => ha _ _ (Cl.sum_ind hp Pr h0 ha f n fun i hi => h i (by omega)) (h n (by omega))
end
section
variable {p : Int} {sq : List Int}
/-- The multivector with 1 at one place. -/
def Cl.at_ (hp : 0 < p) (m : Nat) : Cl p sq := Cl.of hp fun q => if q = m then 1 else 0
theorem Cl.at_l (hp : 0 < p) (h2 : 2 ≤ p) {m : Nat} (_hm : m < pw sq.length) : (Cl.at_ hp m : Cl p sq).l = unitRow (pw sq.length) m := by
 refine list_ext_getD 0 (by rw [Cl.len, unitRow_len]) fun q hq => ?_
 rw [Cl.len] at hq
 show (Cl.at_ hp m : Cl p sq).co q = _
 unfold Cl.at_
 rw [Cl.of_co hp _ hq, unitRow_getD hq]
 by_cases h : q = m
 · rw [if_pos h, if_pos h.symm, Int.emod_eq_of_lt (by omega) (by omega)]
 · rw [if_neg h, if_neg fun e => h e.symm, Int.zero_emod]
theorem Cl.at_sum (hp : 0 < p) (z : Cl p sq) : z = Cl.sum hp (pw sq.length) fun m => z.co m * Cl.at_ hp m := Cl.same fun q hq => by
 rw [Cl.sum_co hp _ hq]
 rw [sumTo_mod (g := fun m => if q = m then z.co m else 0) p fun m hm => ?_]
 · rw [sumTo_one q hq fun m _ hne => if_neg fun e => hne e.symm, if_pos rfl]
 · rw [Cl.sm_co _ _ hq, Int.mul_emod]
   unfold Cl.at_
   rw [Cl.of_cg _ _ hq, ← Int.mul_emod]
   by_cases h : q = m
   · rw [if_pos h, if_pos h, Int.mul_one]
   · rw [if_neg h, if_neg h, Int.mul_zero]
theorem Cl.zero_all (hp : 0 < p) : ∀ y ∈ (Cl.zero hp : Cl p sq).l, y = 0 := fun y hy => by
 obtain ⟨i, hi, rfl⟩ := List.getElem_of_mem hy
 rw [Cl.len] at hi
 have h := Cl.zero_co (sq := sq) hp hi
 rw [Cl.co_mod] at h
 unfold Cl.co at h
 rw [getD_of_lt 0 (by rw [Cl.len]; exact hi)] at h
 exact h
end
/-- All squares 0. -/
abbrev zs (n : Nat) : List Int := List.replicate n 0
section
variable {p : Int} {n : Nat}
theorem Cl.sum_zero (hp : 0 < p) {sq : List Int} {f : Nat → Cl p sq} : ∀ k, (∀ i, i < k → f i = Cl.zero hp) → Cl.sum hp k f = Cl.zero hp
 | 0, _ => rfl
 | k + 1, h => by
  show Cl.sum hp k f + f k = _
  rw [Cl.sum_zero hp k fun i hi => h i (by omega), h k (by omega), Cl.add_zero]
end
section
variable {p : Int} {n : Nat} {m : List (List Int)} {i j : Nat}
theorem mul_b {a b : Int} (ha : 0 ≤ a ∧ a ≤ 1000) (hb : 0 ≤ b ∧ b ≤ 1000) : 0 ≤ a * b ∧ a * b ≤ 1000000 := by
 refine ⟨Int.mul_nonneg ha.1 hb.1, ?_⟩
 have := Int.mul_le_mul ha.2 hb.2 hb.1 (by omega : (0 : Int) ≤ 1000)
 omega
end
/-- Rows none of which is a sum of multiples of others. -/
def Ind (p : Int) (n : Nat) (L : List (List Int)) : Prop := ∀ c : Nat → Int, (∀ q, q < n → (sumTo L.length fun i => c i * ent L i q) % p = 0) → ∀ i, i < L.length → c i % p = 0
section
variable {p : Int} {n : Nat}
theorem Red.ind {B : List (List Int)} (hR : Red n B) : Ind p n B := fun c hc i hi => by
 have h := hc _ (hR.lt i hi)
 rwa [sumTo_one (f := fun j => c j * ent B j (ld B i)) i hi (fun j hj hne => by rw [hR.zero i j hi hj hne, Int.mul_zero]), hR.one i hi, Int.mul_one] at h
/-- Leads that fill the first places. -/
theorem Red.fills {B : List (List Int)} (hR : Red n B) {N : Nat} (h : ∀ f, f < N → isLd B f = true) : N ≤ B.length := by
 have key : ∀ f, f < N → ∃ i, i < B.length ∧ ld B i = f ∧ f ≤ i := by
  intro f
  induction f with
  | zero => intro h0; obtain ⟨i, hi, e⟩ := isLd_iff.1 (h 0 h0); exact ⟨i, hi, e, Nat.zero_le _⟩
  | succ f ih =>
   intro hf
   obtain ⟨i, hi, e, hle⟩ := ih (by omega)
   obtain ⟨j, hj, e2⟩ := isLd_iff.1 (h (f + 1) hf)
   refine ⟨j, hj, e2, ?_⟩
   rcases Nat.lt_trichotomy i j with hl | hl | hl
   · omega
   · subst hl; omega
   · have := hR.mono j i hl hi; omega
 rcases Nat.eq_zero_or_pos N with rfl | hN
 · exact Nat.zero_le _
 · obtain ⟨i, hi, -, hle⟩ := key (N - 1) (by omega)
   omega
/-- Independent vectors that others make are no more than these. -/
theorem Ind.le (hP : isP p = true) {L M : List (List Int)} (hI : Ind p n L) (hS : InSp p n L M) : L.length ≤ M.length := by
 have hp : 2 ≤ p := by have := isP_ge hP; omega
 refine Classical.byContradiction fun hlt => ?_
 have hch : ∀ i, ∃ a : Nat → Int, i < L.length → ∀ q, q < n → ent L i q % p = (sumTo M.length fun j => a j * ent M j q) % p := fun i => by
  by_cases hi : i < L.length
  · obtain ⟨a, ha⟩ := hS i hi; exact ⟨a, fun _ => ha⟩
  · exact ⟨fun _ => 0, fun h => absurd h hi⟩
 obtain ⟨a, ha⟩ := Classical.axiomOfChoice hch
 obtain ⟨A, hA⟩ : ∃ A : List (List Int), A = tab M.length fun j => tab L.length fun i => a i j % p := ⟨_, rfl⟩
 have hAl : A.length = M.length := by rw [hA, tab_len]
 have hAT : Tab p L.length A := by
  rw [hA]
  exact Tab.tab fun j _ => ⟨tab_len _ _, NumsL.tab fun i _ => ⟨Int.emod_nonneg _ (by omega), Int.emod_lt_of_pos _ (by omega)⟩⟩
 have hAe : ∀ j i, j < M.length → i < L.length → ent A j i = a i j % p := fun j i hj hi => by
  unfold ent; rw [hA, tab_getD hj, tab_getD hi]
 have hR := basisL_red hP A hAT
 have hRl := (basisL_len (p := p) (by omega) A hAT).2
 have hf : ∃ f, f < L.length ∧ isLd (basisL p A) f = false := Classical.byContradiction fun hno => by
  have := hR.fills (N := L.length) fun f hf => by
   cases e : isLd (basisL p A) f
   · exact absurd ⟨f, hf, e⟩ hno
   · rfl
  omega
 obtain ⟨f, hf, hfl⟩ := hf
 have ho := (freeRow_orth (p := p) hR hf hfl).of_in (basisL_in hP A hAT).2
 obtain ⟨c, hc⟩ : ∃ c : Nat → Int, c = fun q => (freeRow p (basisL p A) L.length f).getD q 0 := ⟨_, rfl⟩
 have h0 := hI c (fun q hq => by
  have e1 : (sumTo L.length fun i => c i * ent L i q) % p = (sumTo L.length fun i => c i * sumTo M.length fun j => a i j * ent M j q) % p := sumTo_mod p fun i hi => cg_mul rfl (ha i hi q hq)
  rw [e1, sumTo_congr (g := fun i => sumTo M.length fun j => c i * (a i j * ent M j q)) fun i _ => (sumTo_mul _ _ _).symm, sumTo_comm]
  refine (sumTo_mod p (g := fun _ => 0) fun j hj => ?_).trans (by rw [sumTo_zero fun _ _ => rfl]; rfl)
  have h1 := ho j (by omega)
  have e2 : (sumTo L.length fun i => c i * (a i j * ent M j q)) = ent M j q * sumTo L.length fun i => a i j * c i := by
   rw [← sumTo_mul]; exact sumTo_congr fun i _ => by rw [← Int.mul_assoc, Int.mul_comm (ent M j q), Int.mul_comm (c i)]
  rw [e2]
  have e3 : (sumTo L.length fun i => a i j * c i) % p = (sumTo L.length fun q => ent A j q * (freeRow p (basisL p A) L.length f).getD q 0) % p := sumTo_mod p fun i hi => by
   rw [hAe j i hj hi, hc]; exact cg_mul (cg_self _ _).symm rfl
  exact (cg_mul rfl (e3.trans h1)).trans (by rw [Int.mul_zero])) f hf
 rw [hc] at h0
 simp only [freeRow_own (p := p) (B := basisL p A) hf] at h0
 rw [Int.emod_eq_of_lt (by omega) (by omega)] at h0
 exact absurd h0 (by decide)
theorem Ind.same (hP : isP p = true) {L M : List (List Int)} (hL : Ind p n L) (hM : Ind p n M) (h1 : InSp p n L M) (h2 : InSp p n M L) : L.length = M.length :=
 Nat.le_antisymm (hL.le hP h1) (hM.le hP h2)
/-- The reduced basis of independent vectors has as many. -/
theorem Ind.basis (hP : isP p = true) {L : List (List Int)} (hT : Tab p n L) (hL : Ind p n L) : (basisL p L).length = L.length :=
 (basisL_red hP L hT).ind.same hP hL (basisL_in hP L hT).1 (basisL_in hP L hT).2
theorem ent_trans {m : List (List Int)} (hT : Tab p n m) (h0 : 0 < m.length) {i q : Nat} (hi : i < m.length) (hq : q < n) : ent (transL m) q i = ent m i q := by
 unfold ent
 rw [transL_row hT h0 hq, tab_getD hi]; rfl
end
theorem Ind.snoc' {p : Int} {n : Nat} (hP : isP p = true) {B : List (List Int)} {v : List Int} (hI : Ind p n B) (h : ¬ Sp p n B (fun q => v.getD q 0)) : Ind p n (B ++ [v]) := fun c hc => by
 have hsum : ∀ q, q < n → (sumTo B.length (fun i => c i * ent B i q) + c B.length * v.getD q 0) % p = 0 := fun q hq => by
  have h1 := hc q hq
  rw [List.length_append, List.length_singleton, sumTo_succ] at h1
  refine Eq.trans ?_ h1
  congr 1
  congr 1
  · refine sumTo_congr fun i hi => ?_
    unfold ent; rw [getD_app_left [] _ hi]
  · unfold ent
    have e9 : (B ++ [v]).getD B.length [] = v := by
     rw [List.getD_eq_getElem?_getD, List.getElem?_append_right (Nat.le_refl _)]
     simp
    rw [e9]
 have h0 : c B.length % p = 0 := Classical.byContradiction fun hne => h (by
  refine ⟨fun i => -(invF p (c B.length % p)) * c i, fun q hq => ?_⟩
  have hi := inv_mod hP hne
  obtain ⟨t, ht⟩ := cg_wit.1 ((hsum q hq).trans (Int.zero_emod p).symm)
  have h3 := isP_ge hP
  obtain ⟨s, hs⟩ := cg_wit.1 (hi.trans (Int.emod_eq_of_lt (a := 1) (by omega) (by omega)).symm)
  have e1 : (sumTo B.length fun i => -(invF p (c B.length % p)) * c i * ent B i q) = -(invF p (c B.length % p)) * sumTo B.length (fun i => c i * ent B i q) := by
   rw [← sumTo_mul]
   exact sumTo_congr fun i _ => Int.mul_assoc _ _ _
  rw [e1]
  obtain ⟨S, hS⟩ : ∃ S, S = sumTo B.length (fun i => c i * ent B i q) := ⟨_, rfl⟩
  obtain ⟨I, hI⟩ : ∃ I, I = invF p (c B.length % p) := ⟨_, rfl⟩
  obtain ⟨C, hC⟩ : ∃ C, C = c B.length := ⟨_, rfl⟩
  obtain ⟨V, hV⟩ : ∃ V, V = v.getD q 0 := ⟨_, rfl⟩
  rw [← hI, ← hC] at hs
  rw [← hS, ← hC, ← hV] at ht
  show v.getD q 0 % p = _
  rw [← hV, ← hI, ← hS]
  refine cg_wit.2 ⟨I * t - s * V, ?_⟩
  have e2 : S = p * t - C * V := by omega
  rw [e2]
  clear e1 e2 ht hi hsum hc
  grind)
 have h1 : ∀ i, i < B.length → c i % p = 0 := hI c fun q hq => by
  have h2 := hsum q hq
  obtain ⟨t, ht⟩ := cg_wit.1 (h0.trans (Int.zero_emod p).symm)
  rw [ht] at h2
  obtain ⟨S, hS⟩ : ∃ S, S = sumTo B.length (fun i => c i * ent B i q) := ⟨_, rfl⟩
  rw [← hS] at h2 ⊢
  obtain ⟨s, hs⟩ := cg_wit.1 (h2.trans (Int.zero_emod p).symm)
  exact (cg_wit.2 ⟨s - t * v.getD q 0, by grind⟩).trans (Int.zero_emod p)
 intro i hi
 rw [List.length_append, List.length_singleton] at hi
 rcases Nat.lt_or_ge i B.length with h2 | h2
 · exact h1 i h2
 · obtain rfl : i = B.length := by omega
   exact h0
section
variable {p : Int} {n : Nat}
end
section
variable {p : Int} {n : Nat}
theorem mat_ext {a b : List (List Int)} (ha : Tab p n a) (hb : Tab p n b) (h : a.length = b.length) (he : ∀ i q, i < a.length → q < n → ent a i q = ent b i q) : a = b := by
 refine list_ext_getD [] h fun i hi => ?_
 have h1 := ha.row hi
 have h2 := hb.row (show i < b.length by omega)
 refine list_ext_getD 0 (by rw [h1.1, h2.1]) fun q hq => ?_
 rw [h1.1] at hq
 exact he i q hi hq
theorem trans_at {m : List (List Int)} (hT : Tab p n m) (hl : m.length = n) (hn : 0 < n) {i q : Nat} (hi : i < n) (hq : q < n) : ent (transL m) i q = ent m q i := ent_trans hT (by omega) (by omega) hi
end
/-- Matrices with n rows and columns of numbers. -/
structure Mt (p : Int) (n : Nat) where
 l : List (List Int)
 len : l.length = n
 tab : Tab p n l
 pos : 0 < p
section
variable {p : Int} {n : Nat}
def Mt.at (x : Mt p n) (i j : Nat) : Int := ent x.l i j
theorem Mt.ext {x y : Mt p n} (h : x.l = y.l) : x = y := by
 cases x; cases y; simp only at h; subst h; rfl
theorem Mt.small (x : Mt p n) (i j : Nat) : 0 ≤ x.at i j ∧ x.at i j < p := x.tab.ent x.pos i j
theorem Mt.same {x y : Mt p n} (h : ∀ i j, i < n → j < n → x.at i j % p = y.at i j % p) : x = y := Mt.ext (mat_ext x.tab y.tab (x.len.trans y.len.symm) fun i q hi hq => by
 rw [x.len] at hi
 exact cg_eq (x.small i q) (y.small i q) (h i q hi hq))
def Mt.of (hp : 0 < p) (f : Nat → Nat → Int) : Mt p n := ⟨Go.Proofs.YtmkjdpnoloofjaaGreat.tab n fun i => Go.Proofs.YtmkjdpnoloofjaaGreat.tab n fun j => f i j % p, tab_len _ _, Tab.tab fun i _ => ⟨tab_len _ _, NumsL.tab fun j _ => ⟨Int.emod_nonneg _ (by omega), Int.emod_lt_of_pos _ hp⟩⟩, hp⟩
theorem Mt.of_at (hp : 0 < p) (f : Nat → Nat → Int) {i j : Nat} (hi : i < n) (hj : j < n) : (Mt.of hp f : Mt p n).at i j = f i j % p := by
 show ((Go.Proofs.YtmkjdpnoloofjaaGreat.tab n fun i => Go.Proofs.YtmkjdpnoloofjaaGreat.tab n fun j => f i j % p).getD i []).getD j 0 = _
 rw [tab_getD hi, tab_getD hj]
theorem Mt.of_cg (hp : 0 < p) (f : Nat → Nat → Int) {i j : Nat} (hi : i < n) (hj : j < n) : (Mt.of hp f : Mt p n).at i j % p = f i j % p := by rw [Mt.of_at hp f hi hj, cg_self]
instance : Mul (Mt p n) := ⟨fun x y => Mt.of x.pos fun i j => sumTo n fun k => x.at i k * y.at k j⟩
instance : Add (Mt p n) := ⟨fun x y => Mt.of x.pos fun i j => x.at i j + y.at i j⟩
instance : HMul Int (Mt p n) (Mt p n) := ⟨fun k x => Mt.of x.pos fun i j => k * x.at i j⟩
def Mt.one (hp : 0 < p) : Mt p n := Mt.of hp fun i j => if i = j then 1 else 0
theorem Mt.add_at (x y : Mt p n) {i j : Nat} (hi : i < n) (hj : j < n) : (x + y).at i j % p = (x.at i j + y.at i j) % p := Mt.of_cg x.pos _ hi hj
theorem Mt.add_comm (x y : Mt p n) : x + y = y + x := Mt.same fun i j hi hj => by rw [Mt.add_at _ _ hi hj, Mt.add_at _ _ hi hj, Int.add_comm]
theorem Mt.add_assoc (x y z : Mt p n) : x + y + z = x + (y + z) := Mt.same fun i j hi hj => by
 rw [Mt.add_at _ _ hi hj, Mt.add_at _ _ hi hj, cg_add (Mt.add_at x y hi hj) rfl, cg_add (rfl : x.at i j % p = x.at i j % p) (Mt.add_at y z hi hj), Int.add_assoc]
end
section
variable {p : Int} {n : Nat}
instance : Std.Associative (α := Mt p n) (· + ·) := ⟨Mt.add_assoc⟩
instance : Std.Commutative (α := Mt p n) (· + ·) := ⟨Mt.add_comm⟩
end
end Go.Proofs.YtmkjdpnoloofjaaGreat
namespace Go.Proofs.YtmkjdpnoloofjaaGreat
open Go.RowKit
set_option maxHeartbeats 1600000 in
set_option maxRecDepth 8000 in
theorem isTable_ok (p : Int) (A : Option Addr) (n c : Nat) (M : List (List Int)) (m : Nat) (w : World) (hp0 : 0 < p) (hp1 : p ≤ 13) (hn : n ≤ 16) (hm1 : 1 ≤ m) (hm : m ≤ 16) (ha : RdII w A n M) (hT : Tab p m M) :
    Calls Tryz.prog 158 #[.int .i64 p, .slice A n c] w fun e w' => e = .returned (.bool true) ∧ w = w' := by
 have HT := Lib.hid hT
 have t1 : decide ((16 : Int) < (n : Int)) = false := by simp; omega
 have t2 : decide ((m : Int) < 1) = false := by simp; omega
 have t3 : decide ((16 : Int) < (m : Int)) = false := by simp; omega
 have t4 : ((m : Int) != (m : Int)) = false := by simp
 clear hT
 go_enter Tryz.func158, Tryz.ntmps158
 go_wp2
 go_loopw [12] (fun i wr => ∃ k : Nat, k ≤ n ∧ i = .int .i64 k ∧ wr = w) (fun i _ => n - (intOf i).toNat)
 case atStart => exact ⟨0, by omega, rfl, rfl⟩
 case round =>
  obtain ⟨k, hk, rfl, rfl⟩ := hrel
  by_cases hlt : k < n
  · obtain ⟨g, o, rfl, hxk, A1, c1, hc1, hr1, -⟩ := ha.at_ hlt
    obtain ⟨g0, o0, e0, hx0, A0, c0, hc0, hr0, -⟩ := ha.at_ (show 0 < n by omega)
    cases e0
    obtain ⟨l1, n1⟩ := HT.out M[k] (List.getElem_mem hxk)
    obtain ⟨l0, -⟩ := HT.out M[0] (List.getElem_mem hx0)
    rw [l1] at hc1 hr1
    rw [l0] at hc0
    rw [Nat.add_zero] at hc0
    have his := is_b p A1 m c1 M[k] wr (by omega) (by omega) (by omega) hr1 (List.all_eq_true.2 fun x hx => by have := n1 x hx; simp [inR]; omega)
    clear hr1 hr0 l1 n1 l0 ha
    go_wp2_with fail
    refine his.mono ?_
    rintro e w1 ⟨rfl, rfl⟩
    go_wp2
    go_roundw
    case rel => exact ⟨k + 1, by omega, by go_num, by first | rfl | trivial⟩
    case measure => simp [intOf]; omega
  · go_wp2
    go_ret
    exact ⟨rfl, rfl⟩
set_option maxHeartbeats 800000 in
set_option maxRecDepth 8000 in
theorem isMatrix_ok (p : Int) (A : Option Addr) (n c : Nat) (M : List (List Int)) (m : Nat) (w : World) (hp0 : 0 < p) (hp1 : p ≤ 13) (hn0 : 0 < n) (hn : n ≤ 16) (hm1 : 1 ≤ m) (hm : m ≤ 16) (ha : RdII w A n M) (hT : Tab p m M) :
    Calls Tryz.prog 195 #[.int .i64 p, .slice A n c] w fun e w' => e = .returned (.bool true) ∧ w = w' := by
 have h := isTable_ok p A n c M m w hp0 hp1 hn hm1 hm ha hT
 have t1 : decide ((0 : Int) < (n : Int)) = true := by simp; omega
 clear hT
 go_enter Tryz.func195, Tryz.ntmps195
 go_wp2_with fail
 refine h.mono ?_
 rintro e w1 ⟨rfl, rfl⟩
 go_wp2
 go_ret
 exact ⟨rfl, rfl⟩
/-- A block of matrices. -/
def RdM (w : World) (g n : Nat) (p : Int) : Prop := ∀ k, k < n → ∃ (A : Option Addr) (r c m : Nat) (M : List (List Int)), w.cell? ⟨g, k, none⟩ = some (.slice A r c) ∧ RdII w A r M ∧ Tab p m M ∧ 0 < r ∧ r ≤ 16 ∧ 1 ≤ m ∧ m ≤ 16
theorem RdM.below {w w' : World} {g n : Nat} {p : Int} (h : RdM w g n p) (hb : Below w.heap.size w w') : RdM w' g n p := fun k hk => by
 obtain ⟨A, r, c, m, M, h1, h2, h3⟩ := h k hk
 exact ⟨A, r, c, m, M, (hb.cell (World.block_lt_of_cell? _ _ h1)).trans h1, h2.below hb, h3⟩
set_option maxHeartbeats 800000 in
set_option maxRecDepth 8000 in
theorem IndexFuncM_no (f : FuncId) (q : Addr) (p : Int) (g n c : Nat) (w : World) (hn : n ≤ 1000) (ha : RdM w g n p) (hf : ∀ (w' : World) (A : Option Addr) (r c m : Nat) (M : List (List Int)), Below w.heap.size w w' → RdII w' A r M → Tab p m M → 0 < r → r ≤ 16 → 1 ≤ m → m ≤ 16 → Calls Tryz.prog f #[.slice A r c, .pointer (some q)] w' fun e w'' => e = .returned (.bool false) ∧ Below w'.heap.size w' w'') (hcf : ∀ (args : Array Value) (w : World), (callFunc f args).run Tryz.prog w = .ok (.enter f args) w) :
    Calls Tryz.prog 253 #[.slice (some ⟨g, 0, none⟩) n c, .func (.func f) #[] #[.pointer (some q)]] w fun e w' => e = .returned (.int .i64 (-1)) ∧ Below w.heap.size w w' := by
 go_enter Tryz.func253, Tryz.ntmps253
 go_wp2
 go_loopw [8] (fun i wr => ∃ k : Nat, k ≤ n ∧ i = .int .i64 k ∧ Below w.heap.size w wr) (fun i _ => n - (intOf i).toNat)
 case atStart => exact ⟨0, by omega, rfl, Below.refl _ _⟩
 case round =>
  obtain ⟨k, hk, rfl, hB⟩ := hrel
  by_cases hlt : k < n
  · obtain ⟨A, r, c', m, M, hcx, h1, h2, h3, h4, h5, h6⟩ := (ha.below hB) k hlt
    have hcall := hf _ A r c' m M hB h1 h2 h3 h4 h5 h6
    clear ha hf h1 h2
    go_wp2_with fail
    refine hcall.mono ?_
    rintro e w1 ⟨rfl, hb1⟩
    go_wp2
    go_roundw
    case rel => exact ⟨k + 1, by omega, by go_num, hB.trans (hb1.mono hB.size)⟩
    case measure => simp [intOf]; omega
  · go_wp2
    go_ret
    exact ⟨rfl, hB⟩
set_option maxHeartbeats 400000 in
set_option maxRecDepth 8000 in
theorem ContainsFuncM_no (f : FuncId) (q : Addr) (p : Int) (g n c : Nat) (w : World) (hn : n ≤ 1000) (ha : RdM w g n p) (hf : ∀ (w' : World) (A : Option Addr) (r c m : Nat) (M : List (List Int)), Below w.heap.size w w' → RdII w' A r M → Tab p m M → 0 < r → r ≤ 16 → 1 ≤ m → m ≤ 16 → Calls Tryz.prog f #[.slice A r c, .pointer (some q)] w' fun e w'' => e = .returned (.bool false) ∧ Below w'.heap.size w' w'') (hcf : ∀ (args : Array Value) (w : World), (callFunc f args).run Tryz.prog w = .ok (.enter f args) w) :
    Calls Tryz.prog 193 #[.slice (some ⟨g, 0, none⟩) n c, .func (.func f) #[] #[.pointer (some q)]] w fun e w' => e = .returned (.bool false) ∧ Below w.heap.size w w' := by
 have h := IndexFuncM_no f q p g n c w hn ha hf hcf
 clear hf
 go_enter Tryz.func193, Tryz.ntmps193
 go_wp2_with fail
 refine h.mono ?_
 rintro e w1 ⟨rfl, hb⟩
 go_wp2
 go_ret
 exact ⟨rfl, hb⟩
set_option maxHeartbeats 800000 in
set_option maxRecDepth 8000 in
theorem notMatrix_no (p : Int) (b : Nat) (A : Option Addr) (r c m : Nat) (M : List (List Int)) (w : World) (hp0 : 0 < p) (hp1 : p ≤ 13) (hk : Blk w b 2 #[.int .i64 p]) (ha : RdII w A r M) (hT : Tab p m M) (h3 : 0 < r) (h4 : r ≤ 16) (h5 : 1 ≤ m) (h6 : m ≤ 16) :
    Calls Tryz.prog 194 #[.slice A r c, .pointer (some ⟨b, 0, none⟩)] w fun e w' => e = .returned (.bool false) ∧ Below w.heap.size w w' := by
 have h := isMatrix_ok p A r c M m w hp0 hp1 h3 h4 h5 h6 ha hT
 have q0 : w.cell? ⟨b, 0, none⟩ = some (.int .i64 p) := by rw [hk.cell]; rfl
 clear hT ha
 go_enter Tryz.func194, Tryz.ntmps194
 go_wp2_with fail
 refine h.mono ?_
 rintro e w1 ⟨rfl, rfl⟩
 go_wp2
 go_ret
 exact ⟨rfl, Below.refl _ _⟩
set_option maxHeartbeats 800000 in
set_option maxRecDepth 8000 in
theorem checkMatrices_ok (p : Int) (g n c : Nat) (w : World) (HP : isP p = true) (hn : n ≤ 1000) (ha : RdM w g n p) :
    Calls Tryz.prog 88 #[.int .i64 p, .slice (some ⟨g, 0, none⟩) n c] w fun e w' => e = .returned (.int .i64 0) ∧ Below w.heap.size w w' := by
 obtain ⟨hp3, hp2⟩ := isP_ge HP
 have hB : Below w.heap.size w (w.alloc (.cells #[.int .i64 p] 2)) := zG.alloc (Nat.le_refl _) _
 have k0 : Blk (w.alloc (.cells #[.int .i64 p] 2)) w.heap.size 2 #[.int .i64 p] := Blk.new _ _ _
 have hmf : ∀ (fn : Fn) (first cap : Array Value) (w : World), (Instr.makeFunc fn first cap).run Tryz.prog w = .ok (.func fn first cap) w := fun _ _ _ _ => rfl
 have hip := IsPrime_b p (w.alloc (.cells #[.int .i64 p] 2)) HP
 have hcf := ContainsFuncM_no 194 ⟨w.heap.size, 0, none⟩ p g n c (w.alloc (.cells #[.int .i64 p] 2)) hn (ha.below hB) (fun w' A r c' m M hb h1 h2 h3 h4 h5 h6 => notMatrix_no p w.heap.size A r c' m M w' (by omega) hp2 (k0.below hb k0.lt) h1 h2 h3 h4 h5 h6) (fun _ _ => rfl)
 clear HP ha
 go_enter Tryz.func88, Tryz.ntmps88
 go_wp2_with fail
 refine hip.mono ?_
 rintro e w1 ⟨rfl, rfl⟩
 go_wp2_with fail
 refine hcf.mono ?_
 rintro e w2 ⟨rfl, hb2⟩
 go_wp2
 go_ret
 exact ⟨rfl, hB.trans (hb2.mono hB.size)⟩
set_option maxHeartbeats 800000 in
set_option maxRecDepth 8000 in
theorem checkSquare_ok (p : Int) (A : Option Addr) (n c : Nat) (M : List (List Int)) (w : World) (HP : isP p = true) (hn0 : 0 < n) (hn : n ≤ 16) (ha : RdII w A n M) (hM : Tab p n M) :
    Calls Tryz.prog 91 #[.int .i64 p, .slice A n c] w fun e w' => e = .returned (.int .i64 0) ∧ Below w.heap.size w w' := by
 have hB : Below w.heap.size w (w.alloc (.cells #[.slice A n c] 27)) := zG.alloc (Nat.le_refl _) _
 have hkn : Blk (w.alloc (.cells #[.slice A n c] 27)) w.heap.size 27 #[.slice A n c] := Blk.new _ _ _
 have hrm : RdM (w.alloc (.cells #[.slice A n c] 27)) w.heap.size 1 p := fun k hk => ⟨A, n, c, n, M, by (obtain rfl : k = 0 := by omega); rw [hkn.cell]; rfl, ha.below hB, hM, by omega, hn, by omega, hn⟩
 have hck := checkMatrices_ok p w.heap.size 1 1 (w.alloc (.cells #[.slice A n c] 27)) HP (by omega) hrm
 clear hrm hkn
 have HM := Lib.hid hM
 clear hM
 go_enter Tryz.func91, Tryz.ntmps91
 go_wp2_with fail
 refine hck.mono ?_
 rintro e w1 ⟨rfl, hb1⟩
 have hB1 := hB.trans (hb1.mono hB.size)
 obtain ⟨g, o, rfl, hx0, A0, c0, hc0, -, -⟩ := (ha.below hB1).at_ hn0
 rw [(HM.out M[0] (List.getElem_mem hx0)).1, Nat.add_zero] at hc0
 have t4 : ((n : Int) != (n : Int)) = false := by simp
 clear hck ha
 go_wp2
 go_ret
 exact ⟨rfl, hB1⟩
set_option maxHeartbeats 800000 in
set_option maxRecDepth 8000 in
theorem blades_any (P : Int) (A : Option Addr) (n c : Nat) (w : World) (hn : n ≤ 10) :
    Calls Tryz.prog 235 #[.agg #[.int .i64 P, .slice A n c]] w fun e w' => ∃ A' c', e = .returned (.slice A' (pw n) c') ∧ MkII w w' A' (pw n) c' (unitM (pw n)) := by
 have hB0 : Below w.heap.size w (w.alloc (.cells #[.int .i64 P, .slice A n c] 26)) := zG.alloc (Nat.le_refl _) _
 have k0 : Blk (w.alloc (.cells #[.int .i64 P, .slice A n c] 26)) w.heap.size 26 #[.int .i64 P, .slice A n c] := Blk.new _ _ _
 obtain ⟨q0, q1⟩ := k0.two
 have hp : pw n ≤ 1024 := pw_le hn
 have hun := fun w' => unit_any (pw n) w' (by omega)
 go_enter Tryz.func235, Tryz.ntmps235
 go_wp2_with fail
 refine (dim_any _ _ _ _ _).mono ?_
 rintro e w1 ⟨rfl, hb1⟩
 go_wp2_with fail
 rw [wrap_pw n (by omega)]
 refine (hun _).mono ?_
 rintro e w2 ⟨A2, c2, rfl, hM⟩
 go_wp2
 go_ret
 exact ⟨_, _, rfl, hM.after (hB0.trans (hb1.mono hB0.size))⟩
section
variable {P : Program} {ops : Array Oper} {Q : Exit → Act → World → Prop}
/-- Those whose values are good still when operation j is done (C: what each uses up). -/
def availL (R C : List (List Nat)) (m j : Nat) : List Nat := (R.getD j []).filter fun i => (List.range m).all fun k => !((C.getD k []).contains i) || k == j || (R.getD k []).contains j
/-- .. and at the end of the first m. -/
def endL (C : List (List Nat)) (m : Nat) : List Nat := (List.range m).filter fun i => (List.range m).all fun k => !((C.getD k []).contains i)
/-- Below what operation j leaves all as it was. -/
def lim (C : List (List Nat)) (B : Nat) (j : Nat) (w : World) : Nat := if (C.getD j []).isEmpty then w.heap.size else B
theorem not_contains {L : List Nat} {i : Nat} : (!(L.contains i)) = true ↔ i ∉ L := by
 rw [Bool.not_eq_true', ← Bool.not_eq_true, List.contains_iff_mem]
theorem avail_spec {R C : List (List Nat)} {m j i : Nat} : i ∈ availL R C m j ↔ i ∈ R.getD j [] ∧ ∀ k, k < m → i ∈ C.getD k [] → k = j ∨ j ∈ R.getD k [] := by
 unfold availL
 rw [List.mem_filter, List.all_eq_true]
 refine and_congr_right fun _ => ⟨fun h k hk hi => ?_, fun h k hk => ?_⟩
 · have h1 := h k (List.mem_range.2 hk)
   rw [Bool.or_eq_true, Bool.or_eq_true, not_contains, beq_iff_eq, List.contains_iff_mem] at h1
   rcases h1 with (h1 | h1) | h1
   · exact absurd hi h1
   · exact .inl h1
   · exact .inr h1
 · rw [Bool.or_eq_true, Bool.or_eq_true, not_contains, beq_iff_eq, List.contains_iff_mem]
   by_cases hi : i ∈ C.getD k []
   · rcases h k (List.mem_range.1 hk) hi with h1 | h1
     · exact .inl (.inr h1)
     · exact .inr h1
   · exact .inl (.inl hi)
theorem end_spec {C : List (List Nat)} {m i : Nat} : i ∈ endL C m ↔ i < m ∧ ∀ k, k < m → i ∉ C.getD k [] := by
 unfold endL
 rw [List.mem_filter, List.all_eq_true, List.mem_range]
 exact and_congr_right fun _ => ⟨fun h k hk => not_contains.1 (h k (List.mem_range.2 hk)), fun h k hk => not_contains.2 (h k (List.mem_range.1 hk))⟩
/-- What is to be shown of operation j. -/
def ObD (P : Program) (ops : Array Oper) (S : World → Prop) (R C : List (List Nat)) (B m : Nat) (V : (Nat → Value) → List VP) (x : Nat → Value) (a0 : Act) (j : Nat) : Prop :=
 ∀ w, S w → (∀ i ∈ availL R C m j, ((V x).getD i VAny).p (x i) w) →
  wpOp P ops NoWay j (fun a' w' => ∃ v, (∀ d, dstOf ops j = some d → a'.tmps[d]? = some v) ∧ a'.defers = a0.defers ∧ ((V x).getD j VAny).p v w' ∧ Below (lim C B j w) w w') (putS ops x a0 j) w
theorem tasks_goD {m B : Nat} {R C : List (List Nat)} {V : (Nat → Value) → List VP} {S : World → Prop} {a0 : Act} (hok : tasksOk ops m a0.tmps.size R = true)
    (hdep : ∀ x x' j, (∀ i ∈ R.getD j [], x i = x' i) → (V x).getD j VAny = (V x').getD j VAny) (hweak : ∀ i, i < m → (C.getD i []).isEmpty = false → ∀ k, k < m → k ≠ i → i ∉ R.getD k [] → k ∉ C.getD i [] → ∀ x v w w', ((V x).getD k VAny).p v w → Below B w w' → ((V x).getD k VAny).p v w') (hSt : ∀ j w w', S w → Below (lim C B j w) w w' → S w') (hob : ∀ x j, j < m → ObD P ops S R C B m V x a0 j)
    (hend : ∀ x w', S w' → (∀ i ∈ endL C m, ((V x).getD i VAny).p (x i) w') → wpAny P .any ops Q (ops.size - m) (listedTo ops.size m) (putS ops x a0 m) w') :
    ∀ (c : Nat) (U : List Nat) (listed : Array Bool) (w : World) (x : Nat → Value), U.length = c → U.Nodup → (∀ i, i ∈ U ↔ i < m ∧ listed.getD i false = false) → listed.size = ops.size →
     (∀ i, m ≤ i → i < ops.size → listed.getD i false = false) → (∀ (j : Nat) (o : Oper), ops[j]? = some o → listed.getD j false = true → ∀ e ∈ o.after, Region.binds .any e = true → listed.getD e.on false = true) →
     S w → (∀ i, i < m → listed.getD i false = true → (∀ j, j < m → i ∈ C.getD j [] → listed.getD j false = false) → ((V x).getD i VAny).p (x i) w) → wpAny P .any ops Q (ops.size - m + c) listed (putD ops (fun i => listed.getD i false) x a0 m) w := by
 obtain ⟨hmn, hspec, htail⟩ := tasks_spec hok
 have hsel : Region.noSelect ops = true := by unfold tasksOk at hok; simp only [Bool.and_eq_true] at hok; exact hok.1.1
 intro c
 induction c with
 | zero =>
  intro U listed w x hU hnd hmem hsz hun hcl hS hV
  obtain rfl : U = [] := List.eq_nil_of_length_eq_zero hU
  have hall : ∀ i, i < m → listed.getD i false = true := fun i hi => by
   cases h : listed.getD i false
   · exact absurd ((hmem i).2 ⟨hi, h⟩) (by simp)
   · rfl
  have hl : listed = listedTo ops.size m := by
   apply Array.ext
   · simp [listedTo, hsz]
   · intro i h1 h2
     have e : listed.getD i false = listed[i] := by simp [Array.getD, h1]
     by_cases hi : i < m
     · have := hall i hi
       rw [e] at this
       simp [listedTo, this, hi]
     · have := hun i (by omega) (by omega)
       rw [e] at this
       simp [listedTo, this, hi]
  rw [Nat.add_zero, putD_congr (ops := ops) _ (fun _ => true) x x a0 m (fun i hi => ⟨hall i hi, fun _ => rfl⟩), hl]
  exact hend x w hS (fun i hi => hV i (end_spec.1 hi).1 (hall i (end_spec.1 hi).1) (fun j hj hc => absurd hc ((end_spec.1 hi).2 j hj)))
 | succ c ih =>
  intro U listed w x hU hnd hmem hsz hun hcl hS hV
  have hne : U ≠ [] := fun e => by rw [e] at hU; simp at hU
  show (_ → _) ∧ _
  refine ⟨fun hr => ?_, fun i hi => ?_⟩
  · exfalso
    obtain ⟨i, hiU, hmin⟩ := min_mem U hne
    obtain ⟨him, hil⟩ := (hmem i).1 hiU
    have hlt : i < ops.size := by omega
    have : i ∈ Region.ready .any ops listed := mem_ready.2 ⟨by simpa [Array.getD, hsz, hlt] using hil, _, Array.getElem?_eq_getElem hlt, fun e he hb => by
     have hlti := (hspec i _ (Array.getElem?_eq_getElem hlt) him).1 e he hb
     cases h : listed.getD e.on false
     · have := hmin e.on ((hmem _).2 ⟨by omega, h⟩); omega
     · rfl⟩
    rw [hr] at this
    cases this
  · obtain ⟨hil, o, ho, hdeps⟩ := mem_ready.1 hi
    have hlt : i < ops.size := (Array.getElem?_eq_some_iff.1 ho).1
    have hil' : listed.getD i false = false := by simpa [Array.getD, hsz, hlt] using hil
    have hreach := listed_reach hok (fun i => listed.getD i false) hcl i o ho hdeps
    have him : i < m := by
     rcases Nat.lt_or_ge i m with h | h
     · exact h
     · exfalso
       obtain ⟨k, hk⟩ := List.exists_mem_of_ne_nil U hne
       obtain ⟨hkm, hkl⟩ := (hmem k).1 hk
       have := hreach k (htail i hlt h k hkm)
       rw [hkl] at this; cases this
    obtain ⟨_, ⟨d, hd, hdsz, hduniq⟩, hlook⟩ := hspec i o ho him
    have hdst : dstOf ops i = some d := by simp [dstOf, ho, hd]
    have hso : ∀ cs b, o.op ≠ .select cs b := fun cs b => Region.noSelect_spec hsel i o cs b ho
    -- the two frames agree on what o looks at
    have hagree : ∀ t ∈ o.looksAt ops, (putD ops (fun i => listed.getD i false) x a0 m).tmps[t]? = (putS ops x a0 i).tmps[t]? := fun t ht => by
     by_cases hex : ∃ k, k < m ∧ dstOf ops k = some t
     · obtain ⟨k, hkm, hkd⟩ := hex
       have hkR := hlook t ht k hkm hkd
       have hki := reach_lt hok i hlt k hkR
       have hkl := hreach k hkR
       have hks : k < ops.size := by omega
       obtain ⟨_, ⟨d', hd', hdsz', hu'⟩, _⟩ := hspec k _ (Array.getElem?_eq_getElem hks) hkm
       have htd : d' = t := by
        have : dstOf ops k = some d' := by simp [dstOf, Array.getElem?_eq_getElem hks, hd']
        rw [hkd] at this; injection this with this; exact this.symm
       rw [putD_at _ _ _ _ k hkd hkl (htd ▸ hdsz') m hkm (fun l hl hlk => htd ▸ hu' l hl hlk)]
       unfold putS
       rw [putD_at _ _ _ _ k hkd rfl (htd ▸ hdsz') i hki (fun l hl hlk => htd ▸ hu' l (by omega) hlk)]
     · rw [putD_other _ _ _ _ m (fun k hk hkd => absurd ⟨k, hk, hkd⟩ hex)]
       unfold putS
       rw [putD_other _ _ _ _ i (fun k hk hkd => absurd ⟨k, by omega, hkd⟩ hex)]
    have hob' := hob x i him w hS (fun k hk => by
     obtain ⟨hkR, hkC⟩ := avail_spec.1 hk
     refine hV k (by have := reach_lt hok i hlt k hkR; omega) (hreach k hkR) (fun j hj hc => ?_)
     rcases hkC j hj hc with rfl | hij
     · exact hil'
     · cases hjl : listed.getD j false
       · rfl
       · have hjs : j < ops.size := by omega
         have := listed_reach hok (fun i => listed.getD i false) hcl j _ (Array.getElem?_eq_getElem hjs) (hcl j _ (Array.getElem?_eq_getElem hjs) hjl) i hij
         rw [hil'] at this; cases this)
    have hsz1 := putD_size (ops := ops) (fun _ => true) x a0 i
    -- what comes behind
    have next : ∀ v w', ((V x).getD i VAny).p v w' → Below (lim C B i w) w w' → wpAny P .any ops Q (ops.size - m + c) (listed.setIfInBounds i true) ((putD ops (fun i => listed.getD i false) x a0 m).put (some d) v) w' := fun v w' hv hb => by
     have hput := putD_put (ops := ops) (fun k => listed.getD k false) (fun k => (listed.setIfInBounds i true).getD k false) x (fun k => if k = i then v else x k) a0 i hil'
      (by simp [hsz, hlt]) (fun k hk => ⟨by rw [getD_set_ne _ (Ne.symm hk)], by simp [hk]⟩) m him
      (fun d' k hk hki hd' => by rw [hdst] at hd'; injection hd' with hd'; exact hd' ▸ hduniq k hk hki)
     simp only [if_true] at hput
     rw [← hdst, hput]
     refine ih (U.erase i) _ _ _ ?_ (hnd.erase _) (fun k => ?_) (by simpa using hsz) (fun k h1 h2 => ?_) (fun j oj hoj hj e he hb' => ?_) (hSt i _ _ hS hb) (fun k hk hkl hcons => ?_)
     · rw [List.length_erase_of_mem ((hmem i).2 ⟨him, hil'⟩), hU]; rfl
     · rw [hnd.mem_erase_iff, hmem]
       by_cases hk : k = i
       · subst hk; simp [hsz, hlt]
       · rw [getD_set_ne _ (Ne.symm hk)]; simp [hk]
     · rw [getD_set_ne _ (by omega)]; exact hun k h1 h2
     · by_cases hji : j = i
       · subst hji
         rw [ho] at hoj; injection hoj with hoj; subst hoj
         exact getD_set_true (hdeps e he hb')
       · rw [getD_set_ne _ (Ne.symm hji)] at hj
         exact getD_set_true (hcl j oj hoj hj e he hb')
     · by_cases hki : k = i
       · subst hki
         rw [hdep _ x k (fun l hl => by have := reach_lt hok k hlt l hl; simp only [show l ≠ k by omega, if_false])]
         simpa using hv
       · rw [getD_set_ne _ (Ne.symm hki)] at hkl
         have hks : k < ops.size := by omega
         have hdk : (V fun l => if l = i then v else x l).getD k VAny = (V x).getD k VAny := hdep _ x k (fun l hl => by
          have hll := listed_reach hok (fun i => listed.getD i false) hcl k _ (Array.getElem?_eq_getElem hks) (hcl k _ (Array.getElem?_eq_getElem hks) hkl) l hl
          have hne : l ≠ i := fun e => by rw [e] at hll; rw [hil'] at hll; cases hll
          simp only [hne, if_false])
         simp only [hki, if_false]
         rw [hdk]
         have hb0 : ∀ j, j < m → k ∈ C.getD j [] → listed.getD j false = false := fun j hj hc => by
          have h1 := hcons j hj hc
          by_cases hji : j = i
          · rw [hji]; exact hil'
          · rwa [getD_set_ne _ (Ne.symm hji)] at h1
         have hkC : k ∉ C.getD i [] := fun hc => by
          have h1 := hcons i him hc
          simp [hsz, hlt] at h1
         have hiR : i ∉ R.getD k [] := fun hik => by
          have := listed_reach hok (fun i => listed.getD i false) hcl k _ (Array.getElem?_eq_getElem hks) (hcl k _ (Array.getElem?_eq_getElem hks) hkl) i hik
          rw [hil'] at this; cases this
         cases he : (C.getD i []).isEmpty
         · rw [show lim C B i w = B by unfold lim; rw [he]; rfl] at hb
           exact hweak i him he k hk hki hiR hkC x _ _ _ (hV k hk hkl hb0) hb
         · rw [show lim C B i w = w.heap.size by unfold lim; rw [he]; rfl] at hb
           exact ((V x).getD k VAny).st _ _ _ (hV k hk hkl hb0) hb
    unfold wpOp at hob' ⊢
    simp only [ho] at hob' ⊢
    rw [wanted_same hagree]
    split
    · rename_i hw
      rw [if_pos hw] at hob'
      rcases hob' with h | ⟨_, h⟩
      case inr => exact absurd h NoWay.lets
      refine .inl (Oper.wp_mono ?_ (wp_move (Q := Q) (d := d) (R := fun v w' => ((V x).getD i VAny).p v w' ∧ Below (lim C B i w) w w') (exec_same hso hagree) hd (by unfold putS; rw [hsz1.1]; exact hdsz)
       (Oper.wp_mono (fun a' w' ⟨v, h1, h2, h3, h4⟩ => ⟨v, h1 d hdst, by unfold putS; rw [hsz1.2]; exact h2, h3, h4⟩) h)))
      rintro a' w' ⟨v, rfl, hv, hb⟩
      exact next v w' hv hb
    · rename_i hw
      rw [if_neg hw] at hob'
      obtain ⟨v, h1, _, h3, h4⟩ := hob'
      have hvu : v = undef := by
       have := h1 d hdst
       rw [hd] at this
       simp [Act.put, putS, hsz1.1, hdsz] at this
       exact this.symm
      rw [hd]
      exact next undef w (hvu ▸ h3) h4
/-- **A region that draws its order**: each of its first m operations is shown once; what is left behind them goes on. -/
theorem wp_tasksD {id m B : Nat} (R C : List (List Nat)) (V : (Nat → Value) → List VP) (S : World → Prop) {a0 : Act} {w : World} (hm : P.follows .mixedOrders = true) (hok : tasksOk ops m a0.tmps.size R = true)
    (hdep : ∀ x x' j, (∀ i ∈ R.getD j [], x i = x' i) → (V x).getD j VAny = (V x').getD j VAny) (hweak : ∀ i, i < m → (C.getD i []).isEmpty = false → ∀ k, k < m → k ≠ i → i ∉ R.getD k [] → k ∉ C.getD i [] → ∀ x v w w', ((V x).getD k VAny).p v w → Below B w w' → ((V x).getD k VAny).p v w') (hS0 : S w.drew) (hSt : ∀ j w w', S w → Below (lim C B j w) w w' → S w') (hob : ∀ x j, j < m → ObD P ops S R C B m V x a0 j)
    (hend : ∀ x w', S w' → (∀ i ∈ endL C m, ((V x).getD i VAny).p (x i) w') → wpAny P .any ops Q (ops.size - m) (listedTo ops.size m) (putS ops x a0 m) w') : (Code.region id ops true).wp P Q a0 w := by
 have hmn := (tasks_spec hok).1
 have hf : ∀ i, (Array.replicate ops.size false).getD i false = false := fun i => by simp [Array.getD]
 have h := tasks_goD (Q := Q) hok hdep hweak hSt hob hend m (List.range m) (Array.replicate ops.size false) w.drew (fun _ => undef) (by simp) List.nodup_range (fun i => by rw [hf]; simp) (by simp) (fun i _ _ => hf i) (fun j o _ hj => by rw [hf] at hj; cases hj) hS0
  (fun i _ hi => by rw [hf] at hi; cases hi)
 refine wp_region_any hm ?_
 rw [show ops.size - m + m = ops.size by omega, putD_congr (ops := ops) _ (fun _ => false) _ (fun _ => undef) a0 m (fun i _ => ⟨hf i, fun _ => rfl⟩)] at h
 have e : ∀ n, putD ops (fun _ => false) (fun _ => undef) a0 n = a0 := fun n => by
  induction n with
  | zero => rfl
  | succ n ih => unfold putD; simpa using ih
 rw [e] at h
 exact h
/-- What is to be shown, operation by operation, in the text's order; the frame goes along. -/
def ObsD (P : Program) (ops : Array Oper) (Q : Exit → Act → World → Prop) (S : World → Prop) (R C : List (List Nat)) (B m : Nat) (V : (Nat → Value) → List VP) (x : Nat → Value) : Nat → Nat → Act → Prop
 | 0, j, a => ∀ w, S w → (∀ i ∈ endL C m, ((V x).getD i VAny).p (x i) w) → wpAny P .any ops Q (ops.size - j) (listedTo ops.size j) a w
 | r + 1, j, a => (∀ w, S w → (∀ i ∈ availL R C m j, ((V x).getD i VAny).p (x i) w) →
     wpOp P ops NoWay j (fun a' w' => ∃ v, (∀ d, dstOf ops j = some d → a'.tmps[d]? = some v) ∧ a'.defers = a.defers ∧ ((V x).getD j VAny).p v w' ∧ Below (lim C B j w) w w') a w) ∧
  ObsD P ops Q S R C B m V x r (j + 1) (a.put (dstOf ops j) (x j))
theorem obs_allD {S : World → Prop} {R C : List (List Nat)} {B m : Nat} {V : (Nat → Value) → List VP} {x : Nat → Value} {a0 : Act} : ∀ (r j : Nat), ObsD P ops Q S R C B m V x r j (putS ops x a0 j) →
    (∀ k, j ≤ k → k < j + r → ObD P ops S R C B m V x a0 k) ∧ ∀ w, S w → (∀ i ∈ endL C m, ((V x).getD i VAny).p (x i) w) → wpAny P .any ops Q (ops.size - (j + r)) (listedTo ops.size (j + r)) (putS ops x a0 (j + r)) w := by
 intro r
 induction r with
 | zero => intro j h; exact ⟨fun k h1 h2 => by omega, h⟩
 | succ r ih =>
  intro j h
  obtain ⟨h1, h2⟩ := h
  have h2' : ObsD P ops Q S R C B m V x r (j + 1) (putS ops x a0 (j + 1)) := h2
  obtain ⟨h3, h4⟩ := ih (j + 1) h2'
  refine ⟨fun k hk1 hk2 => ?_, by rw [show j + (r + 1) = j + 1 + r by omega]; exact h4⟩
  by_cases hk : k = j
  · subst hk
    intro w hS hV
    have h := h1 w hS hV
    rw [show (putS ops x a0 k).defers = a0.defers from (putD_size _ _ _ _).2] at h
    exact h
  · exact h3 k (by omega) (by omega)
theorem wp_obsD {id : Nat} (m B : Nat) (R C : List (List Nat)) (V : (Nat → Value) → List VP) (S : World → Prop) {a0 : Act} {w : World} (hm : P.follows .mixedOrders = true) (hok : tasksOk ops m a0.tmps.size R = true)
    (hdep : ∀ x x' j, (∀ i ∈ R.getD j [], x i = x' i) → (V x).getD j VAny = (V x').getD j VAny) (hweak : ∀ i, i < m → (C.getD i []).isEmpty = false → ∀ k, k < m → k ≠ i → i ∉ R.getD k [] → k ∉ C.getD i [] → ∀ x v w w', ((V x).getD k VAny).p v w → Below B w w' → ((V x).getD k VAny).p v w') (hSt : ∀ j w w', S w → Below (lim C B j w) w w' → S w') (hS0 : S w.drew) (h : ∀ x, ObsD P ops Q S R C B m V x m 0 a0) : (Code.region id ops true).wp P Q a0 w :=
 wp_tasksD (m := m) (B := B) R C V S hm hok hdep hweak hS0 hSt (fun x j hj => (obs_allD m 0 (h x)).1 j (by omega) (by omega)) (fun x w' hS hV => by
  have := (obs_allD m 0 (h x)).2 w' hS (hV)
  rwa [Nat.zero_add] at this)
theorem obs_stepD {S : World → Prop} {R C : List (List Nat)} {B m : Nat} {V : (Nat → Value) → List VP} {x : Nat → Value} {r j : Nat} {a : Act} {o : Oper} {d : Tmp} (ho : ops[j]? = some o) (hd : o.dst = some d)
    (h : ∀ w, S w → (∀ i ∈ availL R C m j, ((V x).getD i VAny).p (x i) w) → ∀ K : Act → World → Prop, Shut (∀ a' w' v, a'.tmps[d]? = some v → a'.defers = a.defers → ((V x).getD j VAny).p v w' → Below (lim C B j w) w w' → K a' w') →
     if Region.wanted o (yielded ops a.tmps) = true then Oper.wp P o a w K NoWay else K (a.put o.dst undef) w)
    (hr : ObsD P ops Q S R C B m V x r (j + 1) { a with tmps := a.tmps.setIfInBounds d (x j) }) : ObsD P ops Q S R C B m V x (r + 1) j a := by
 have hdst : dstOf ops j = some d := by simp [dstOf, ho, hd]
 refine ⟨fun w hS hV => wpOp_step ho (fun K hK => ?_), by rw [hdst]; exact hr⟩
 exact h w hS hV K (fun a' w' v h1 h2 h3 h4 => hK a' w' ⟨v, fun d' hd' => by rw [hdst] at hd'; injection hd' with hd'; exact hd' ▸ h1, h2, h3, h4⟩)
/-- Those that bear an append in place: their values are plain. -/
theorem weak_of {m B : Nat} {R C : List (List Nat)} {V : (Nat → Value) → List VP} (Wk : List Nat)
    (hchk : ((List.range m).all fun i => (C.getD i []).isEmpty || (List.range m).all fun k => k == i || (R.getD k []).contains i || (C.getD i []).contains k || Wk.contains k) = true)
    (hW : ∀ k ∈ Wk, ∀ x, ∃ u, (V x).getD k VAny = VIs u) :
    ∀ i, i < m → (C.getD i []).isEmpty = false → ∀ k, k < m → k ≠ i → i ∉ R.getD k [] → k ∉ C.getD i [] → ∀ x v w w', ((V x).getD k VAny).p v w → Below B w w' → ((V x).getD k VAny).p v w' := by
 intro i hi he k hk hne hR hC x v w w' hp _
 have h1 := List.all_eq_true.1 hchk i (List.mem_range.2 hi)
 rw [he, Bool.false_or] at h1
 have h2 := List.all_eq_true.1 h1 k (List.mem_range.2 hk)
 rw [Bool.or_eq_true, Bool.or_eq_true, Bool.or_eq_true, beq_iff_eq, List.contains_iff_mem, List.contains_iff_mem, List.contains_iff_mem] at h2
 rcases h2 with ((h2 | h2) | h2) | h2
 · exact absurd h2 hne
 · exact absurd h2 hR
 · exact absurd h2 hC
 · obtain ⟨u, hu⟩ := hW k h2 x
   rw [hu] at hp ⊢
   exact hp
theorem lim_ge {C : List (List Nat)} {B j : Nat} {w : World} (h : B ≤ w.heap.size) : B ≤ lim C B j w := by
 unfold lim
 split
 · exact h
 · exact Nat.le_refl _
end
def CK (w w' : World) : Prop := ∀ b i u, w.cell? ⟨b, i, none⟩ = some u → w'.cell? ⟨b, i, none⟩ = some u
theorem CK.refl (w : World) : CK w w := fun _ _ _ h => h
theorem Rd.ck {w w' : World} {A : Option Addr} {n : Nat} {us : List Value} (h : Rd w A n us) (k : CK w w') : Rd w' A n us := ⟨h.1, fun hn => by
 obtain ⟨g, o, e, hc⟩ := h.2 hn
 exact ⟨g, o, e, fun j u hu => k _ _ _ (hc j u hu)⟩⟩
theorem RdII.ck {w w' : World} {A : Option Addr} {n : Nat} {xss : List (List Int)} (h : RdII w A n xss) (k : CK w w') : RdII w' A n xss := by
 obtain ⟨rows, hr, hl, hk⟩ := h
 exact ⟨rows, hr.ck k, hl, fun j hj => by obtain ⟨A', c', e, h1, h2⟩ := hk j hj; exact ⟨A', c', e, h1.ck k, h2⟩⟩
/-- A row that grows; it began as the empty block g; what lay in w is as it was. -/
def Grows (w wr : World) (g : Nat) (v : Value) : Prop := CK w wr ∧ w.heap.size ≤ wr.heap.size ∧ ∀ gb, v.ownBlock = some gb → gb = g ∨ w.heap.size ≤ gb
theorem Grows.step {w wr v1 w' : World} {g : Nat} {T : TypeId} {A A' : Option Addr} {n c n' c' : Nat} (h : Grows w wr g (.slice A n c)) (he : Blk w g T #[]) (hb : Below wr.heap.size wr v1) (hg : v1.grownBy w' (Value.slice A n c).ownBlock)
    (hat : ∃ g', A' = some ⟨g', 0, none⟩ ∧ ((Value.slice A n c).ownBlock = some g' ∨ v1.heap.size ≤ g')) : Grows w w' g (.slice A' n' c') := by
 obtain ⟨h1, h2, h3⟩ := h
 refine ⟨fun b i u hu => ?_, by have := hb.size; have := hg.size; omega, fun gb hgb => ?_⟩
 · refine hg.cell ((hb.cell (World.block_lt_of_cell? _ _ (h1 b i u hu))).trans (h1 b i u hu)) fun e => ?_
   rcases h3 b e.symm with rfl | hge
   · rw [he.cell] at hu; simp at hu
   · have hlt : b < w.heap.size := World.block_lt_of_cell? _ _ hu
     omega
 · obtain ⟨g', rfl, hor⟩ := hat
   simp only [Value.ownBlock, Option.some.injEq] at hgb
   subst hgb
   rcases hor with hor | hor
   · exact h3 _ hor
   · right; have := hb.size; omega
end Go.Proofs.YtmkjdpnoloofjaaGreat
namespace Go.Proofs.YtmkjdpnoloofjaaGreat
section
variable {p : Int} {n : Nat}
end
section
variable {p : Int} {sq : List Int}
/-- A column. -/
def Mt.col {n : Nat} (x : Mt p n) (i : Nat) : List Int := (transL x.l).getD i []
end
end Go.Proofs.YtmkjdpnoloofjaaGreat
namespace Go.Proofs.YtmkjdpnoloofjaaGreat
open Go.RowKit
section
variable {P : Program}
/-- A whole list is appended to a row of the call's own. -/
theorem wpList_appAll {ops : Array Oper} {rest : List Oper} {o : Oper} {a : Act} {Q : Exit → Act → World → Prop} (w0 wr : World)
    (hgd : o.guard = none) (s x : Operand) (ho : o.op = .call { callee := .builtin .append, args := #[s, x], argTypes := #[24, 24] })
    (A : Option Addr) (n c : Nat) (xs : List Int) (B : Option Addr) (m d : Nat) (ys : List Int) (hM : MkI w0 wr A n c xs) (hY : Rd wr B m (ints ys)) (h0 : 0 < m) (hn : n ≤ 65536) (hm : m ≤ 65536)
    (hs : a.eval s = .slice A n c) (hx : a.eval x = .slice B m d)
    (h : ∀ A' c' w', MkI w0 w' A' (n + m) c' (xs ++ ys) → wr.grownBy w' (Value.slice A n c).ownBlock → wpList Tryz.prog ops Q rest (a.put o.dst (.slice A' (n + m) c')) w') :
    wpList Tryz.prog ops Q (o :: rest) a wr := by
 obtain ⟨i, hi, h1, h2, h3⟩ := info_parts info_i
 obtain ⟨b1, b2⟩ := bound_of (show n + m ≤ 1099511627776 by omega)
 have hyl : ys.length = m := by have := hY.1; rwa [ints_length] at this
 obtain ⟨g, o', rfl, hc⟩ := hY.2 h0
 refine wpList_append_own_at wr hgd s x 24 ho w0.heap.size 2 i _ 1 8 Tryz.underlying24 hi h1 h2 h3 rfl (by omega) (.slice A n c) n (ints xs) hs hM.2 ⟨g, o', none⟩ m d (ints ys) hx (by rw [ints_length, hyl, Nat.mul_one]) (fun j u hu => by rw [Addr.add_lit]; exact hc j u hu) (by intro u hu; obtain ⟨y, _, rfl⟩ := List.mem_map.1 hu; rfl) (by simp only [maxLen]; omega) (by have := b2 8 (by omega); omega) hM.1.size ?_
 intro v' w' hown hg _ _
 have hb' : Below w0.heap.size w0 w' := hM.1.grown hg hM.1.size (fun k hk => (hM.2.lt k hk).1)
 have e : ints xs ++ ints ys = ints (xs ++ ys) := by unfold ints; rw [List.map_append]
 rw [e] at hown
 rcases hown.2 with ⟨_, h0⟩ | ⟨g, cap, cur, rfl, hr⟩
 · omega
 · exact h _ _ _ ⟨hb', hown⟩ hg
end
section
variable {P : Program} {ops : Array Oper} {Q : Exit → Act → World → Prop}
/-- Those whose values are good still when operation j is done (C: what each uses up). -/
def availR (R C : List (List Nat)) (m j : Nat) : List Nat := (R.getD j []).filter fun i => (List.range m).all fun k => !((C.getD k []).contains i) || k == j || (R.getD k []).contains j
/-- .. and at the end of the first m. -/
def endR (C : List (List Nat)) (m : Nat) : List Nat := (List.range m).filter fun i => (List.range m).all fun k => !((C.getD k []).contains i)
/-- What operation j may do to the world: add to it, or, where C has something at j, what Rel allows. -/
def StepR (C : List (List Nat)) (Rel : World → World → Prop) (j : Nat) (w w' : World) : Prop := if (C.getD j []).isEmpty then Below w.heap.size w w' else Rel w w'
theorem StepR.rel {C : List (List Nat)} {Rel : World → World → Prop} {j : Nat} {w w' : World} (h : (C.getD j []).isEmpty = false) (hb : Rel w w') : StepR C Rel j w w' := by unfold StepR; rw [h]; exact hb
theorem StepR.either {C : List (List Nat)} {Rel : World → World → Prop} {j : Nat} {w w' : World} {q : Prop} (h : StepR C Rel j w w') (h1 : Below w.heap.size w w' → q) (h2 : Rel w w' → q) : q := by
 unfold StepR at h
 split at h
 · exact h1 h
 · exact h2 h
theorem not_containsR {L : List Nat} {i : Nat} : (!(L.contains i)) = true ↔ i ∉ L := by
 rw [Bool.not_eq_true', ← Bool.not_eq_true, List.contains_iff_mem]
theorem availR_spec {R C : List (List Nat)} {m j i : Nat} : i ∈ availR R C m j ↔ i ∈ R.getD j [] ∧ ∀ k, k < m → i ∈ C.getD k [] → k = j ∨ j ∈ R.getD k [] := by
 unfold availR
 rw [List.mem_filter, List.all_eq_true]
 refine and_congr_right fun _ => ⟨fun h k hk hi => ?_, fun h k hk => ?_⟩
 · have h1 := h k (List.mem_range.2 hk)
   rw [Bool.or_eq_true, Bool.or_eq_true, not_containsR, beq_iff_eq, List.contains_iff_mem] at h1
   rcases h1 with (h1 | h1) | h1
   · exact absurd hi h1
   · exact .inl h1
   · exact .inr h1
 · rw [Bool.or_eq_true, Bool.or_eq_true, not_containsR, beq_iff_eq, List.contains_iff_mem]
   by_cases hi : i ∈ C.getD k []
   · rcases h k (List.mem_range.1 hk) hi with h1 | h1
     · exact .inl (.inr h1)
     · exact .inr h1
   · exact .inl (.inl hi)
theorem endR_spec {C : List (List Nat)} {m i : Nat} : i ∈ endR C m ↔ i < m ∧ ∀ k, k < m → i ∉ C.getD k [] := by
 unfold endR
 rw [List.mem_filter, List.all_eq_true, List.mem_range]
 exact and_congr_right fun _ => ⟨fun h k hk => not_containsR.1 (h k (List.mem_range.2 hk)), fun h k hk => not_containsR.2 (h k (List.mem_range.1 hk))⟩
/-- What is to be shown of operation j. -/
def ObR (P : Program) (ops : Array Oper) (S : World → Prop) (R C : List (List Nat)) (Rel : World → World → Prop) (m : Nat) (V : (Nat → Value) → List VP) (x : Nat → Value) (a0 : Act) (j : Nat) : Prop :=
 ∀ w, S w → (∀ i ∈ availR R C m j, ((V x).getD i VAny).p (x i) w) →
  wpOp P ops NoWay j (fun a' w' => ∃ v, (∀ d, dstOf ops j = some d → a'.tmps[d]? = some v) ∧ a'.defers = a0.defers ∧ ((V x).getD j VAny).p v w' ∧ StepR C Rel j w w') (putS ops x a0 j) w
theorem tasks_goR {m : Nat} {Rel : World → World → Prop} {R C : List (List Nat)} {V : (Nat → Value) → List VP} {S : World → Prop} {a0 : Act} (hok : tasksOk ops m a0.tmps.size R = true)
    (hdep : ∀ x x' j, (∀ i ∈ R.getD j [], x i = x' i) → (V x).getD j VAny = (V x').getD j VAny) (hweak : ∀ i, i < m → (C.getD i []).isEmpty = false → ∀ k, k < m → k ≠ i → i ∉ R.getD k [] → k ∉ C.getD i [] → ∀ x v w w', ((V x).getD k VAny).p v w → Rel w w' → ((V x).getD k VAny).p v w') (hSt : ∀ j w w', S w → StepR C Rel j w w' → S w') (hob : ∀ x j, j < m → ObR P ops S R C Rel m V x a0 j)
    (hend : ∀ x w', S w' → (∀ i ∈ endR C m, ((V x).getD i VAny).p (x i) w') → wpAny P .any ops Q (ops.size - m) (listedTo ops.size m) (putS ops x a0 m) w') :
    ∀ (c : Nat) (U : List Nat) (listed : Array Bool) (w : World) (x : Nat → Value), U.length = c → U.Nodup → (∀ i, i ∈ U ↔ i < m ∧ listed.getD i false = false) → listed.size = ops.size →
     (∀ i, m ≤ i → i < ops.size → listed.getD i false = false) → (∀ (j : Nat) (o : Oper), ops[j]? = some o → listed.getD j false = true → ∀ e ∈ o.after, Region.binds .any e = true → listed.getD e.on false = true) →
     S w → (∀ i, i < m → listed.getD i false = true → (∀ j, j < m → i ∈ C.getD j [] → listed.getD j false = false) → ((V x).getD i VAny).p (x i) w) → wpAny P .any ops Q (ops.size - m + c) listed (putD ops (fun i => listed.getD i false) x a0 m) w := by
 obtain ⟨hmn, hspec, htail⟩ := tasks_spec hok
 have hsel : Region.noSelect ops = true := by unfold tasksOk at hok; simp only [Bool.and_eq_true] at hok; exact hok.1.1
 intro c
 induction c with
 | zero =>
  intro U listed w x hU hnd hmem hsz hun hcl hS hV
  obtain rfl : U = [] := List.eq_nil_of_length_eq_zero hU
  have hall : ∀ i, i < m → listed.getD i false = true := fun i hi => by
   cases h : listed.getD i false
   · exact absurd ((hmem i).2 ⟨hi, h⟩) (by simp)
   · rfl
  have hl : listed = listedTo ops.size m := by
   apply Array.ext
   · simp [listedTo, hsz]
   · intro i h1 h2
     have e : listed.getD i false = listed[i] := by simp [Array.getD, h1]
     by_cases hi : i < m
     · have := hall i hi
       rw [e] at this
       simp [listedTo, this, hi]
     · have := hun i (by omega) (by omega)
       rw [e] at this
       simp [listedTo, this, hi]
  rw [Nat.add_zero, putD_congr (ops := ops) _ (fun _ => true) x x a0 m (fun i hi => ⟨hall i hi, fun _ => rfl⟩), hl]
  exact hend x w hS (fun i hi => hV i (endR_spec.1 hi).1 (hall i (endR_spec.1 hi).1) (fun j hj hc => absurd hc ((endR_spec.1 hi).2 j hj)))
 | succ c ih =>
  intro U listed w x hU hnd hmem hsz hun hcl hS hV
  have hne : U ≠ [] := fun e => by rw [e] at hU; simp at hU
  show (_ → _) ∧ _
  refine ⟨fun hr => ?_, fun i hi => ?_⟩
  · exfalso
    obtain ⟨i, hiU, hmin⟩ := min_mem U hne
    obtain ⟨him, hil⟩ := (hmem i).1 hiU
    have hlt : i < ops.size := by omega
    have : i ∈ Region.ready .any ops listed := mem_ready.2 ⟨by simpa [Array.getD, hsz, hlt] using hil, _, Array.getElem?_eq_getElem hlt, fun e he hb => by
     have hlti := (hspec i _ (Array.getElem?_eq_getElem hlt) him).1 e he hb
     cases h : listed.getD e.on false
     · have := hmin e.on ((hmem _).2 ⟨by omega, h⟩); omega
     · rfl⟩
    rw [hr] at this
    cases this
  · obtain ⟨hil, o, ho, hdeps⟩ := mem_ready.1 hi
    have hlt : i < ops.size := (Array.getElem?_eq_some_iff.1 ho).1
    have hil' : listed.getD i false = false := by simpa [Array.getD, hsz, hlt] using hil
    have hreach := listed_reach hok (fun i => listed.getD i false) hcl i o ho hdeps
    have him : i < m := by
     rcases Nat.lt_or_ge i m with h | h
     · exact h
     · exfalso
       obtain ⟨k, hk⟩ := List.exists_mem_of_ne_nil U hne
       obtain ⟨hkm, hkl⟩ := (hmem k).1 hk
       have := hreach k (htail i hlt h k hkm)
       rw [hkl] at this; cases this
    obtain ⟨_, ⟨d, hd, hdsz, hduniq⟩, hlook⟩ := hspec i o ho him
    have hdst : dstOf ops i = some d := by simp [dstOf, ho, hd]
    have hso : ∀ cs b, o.op ≠ .select cs b := fun cs b => Region.noSelect_spec hsel i o cs b ho
    -- the two frames agree on what o looks at
    have hagree : ∀ t ∈ o.looksAt ops, (putD ops (fun i => listed.getD i false) x a0 m).tmps[t]? = (putS ops x a0 i).tmps[t]? := fun t ht => by
     by_cases hex : ∃ k, k < m ∧ dstOf ops k = some t
     · obtain ⟨k, hkm, hkd⟩ := hex
       have hkR := hlook t ht k hkm hkd
       have hki := reach_lt hok i hlt k hkR
       have hkl := hreach k hkR
       have hks : k < ops.size := by omega
       obtain ⟨_, ⟨d', hd', hdsz', hu'⟩, _⟩ := hspec k _ (Array.getElem?_eq_getElem hks) hkm
       have htd : d' = t := by
        have : dstOf ops k = some d' := by simp [dstOf, Array.getElem?_eq_getElem hks, hd']
        rw [hkd] at this; injection this with this; exact this.symm
       rw [putD_at _ _ _ _ k hkd hkl (htd ▸ hdsz') m hkm (fun l hl hlk => htd ▸ hu' l hl hlk)]
       unfold putS
       rw [putD_at _ _ _ _ k hkd rfl (htd ▸ hdsz') i hki (fun l hl hlk => htd ▸ hu' l (by omega) hlk)]
     · rw [putD_other _ _ _ _ m (fun k hk hkd => absurd ⟨k, hk, hkd⟩ hex)]
       unfold putS
       rw [putD_other _ _ _ _ i (fun k hk hkd => absurd ⟨k, by omega, hkd⟩ hex)]
    have hob' := hob x i him w hS (fun k hk => by
     obtain ⟨hkR, hkC⟩ := availR_spec.1 hk
     refine hV k (by have := reach_lt hok i hlt k hkR; omega) (hreach k hkR) (fun j hj hc => ?_)
     rcases hkC j hj hc with rfl | hij
     · exact hil'
     · cases hjl : listed.getD j false
       · rfl
       · have hjs : j < ops.size := by omega
         have := listed_reach hok (fun i => listed.getD i false) hcl j _ (Array.getElem?_eq_getElem hjs) (hcl j _ (Array.getElem?_eq_getElem hjs) hjl) i hij
         rw [hil'] at this; cases this)
    have hsz1 := putD_size (ops := ops) (fun _ => true) x a0 i
    -- what comes behind
    have next : ∀ v w', ((V x).getD i VAny).p v w' → StepR C Rel i w w' → wpAny P .any ops Q (ops.size - m + c) (listed.setIfInBounds i true) ((putD ops (fun i => listed.getD i false) x a0 m).put (some d) v) w' := fun v w' hv hb => by
     have hput := putD_put (ops := ops) (fun k => listed.getD k false) (fun k => (listed.setIfInBounds i true).getD k false) x (fun k => if k = i then v else x k) a0 i hil'
      (by simp [hsz, hlt]) (fun k hk => ⟨by rw [getD_set_ne _ (Ne.symm hk)], by simp [hk]⟩) m him
      (fun d' k hk hki hd' => by rw [hdst] at hd'; injection hd' with hd'; exact hd' ▸ hduniq k hk hki)
     simp only [if_true] at hput
     rw [← hdst, hput]
     refine ih (U.erase i) _ _ _ ?_ (hnd.erase _) (fun k => ?_) (by simpa using hsz) (fun k h1 h2 => ?_) (fun j oj hoj hj e he hb' => ?_) (hSt i _ _ hS hb) (fun k hk hkl hcons => ?_)
     · rw [List.length_erase_of_mem ((hmem i).2 ⟨him, hil'⟩), hU]; rfl
     · rw [hnd.mem_erase_iff, hmem]
       by_cases hk : k = i
       · subst hk; simp [hsz, hlt]
       · rw [getD_set_ne _ (Ne.symm hk)]; simp [hk]
     · rw [getD_set_ne _ (by omega)]; exact hun k h1 h2
     · by_cases hji : j = i
       · subst hji
         rw [ho] at hoj; injection hoj with hoj; subst hoj
         exact getD_set_true (hdeps e he hb')
       · rw [getD_set_ne _ (Ne.symm hji)] at hj
         exact getD_set_true (hcl j oj hoj hj e he hb')
     · by_cases hki : k = i
       · subst hki
         rw [hdep _ x k (fun l hl => by have := reach_lt hok k hlt l hl; simp only [show l ≠ k by omega, if_false])]
         simpa using hv
       · rw [getD_set_ne _ (Ne.symm hki)] at hkl
         have hks : k < ops.size := by omega
         have hdk : (V fun l => if l = i then v else x l).getD k VAny = (V x).getD k VAny := hdep _ x k (fun l hl => by
          have hll := listed_reach hok (fun i => listed.getD i false) hcl k _ (Array.getElem?_eq_getElem hks) (hcl k _ (Array.getElem?_eq_getElem hks) hkl) l hl
          have hne : l ≠ i := fun e => by rw [e] at hll; rw [hil'] at hll; cases hll
          simp only [hne, if_false])
         simp only [hki, if_false]
         rw [hdk]
         have hb0 : ∀ j, j < m → k ∈ C.getD j [] → listed.getD j false = false := fun j hj hc => by
          have h1 := hcons j hj hc
          by_cases hji : j = i
          · rw [hji]; exact hil'
          · rwa [getD_set_ne _ (Ne.symm hji)] at h1
         have hkC : k ∉ C.getD i [] := fun hc => by
          have h1 := hcons i him hc
          simp [hsz, hlt] at h1
         have hiR : i ∉ R.getD k [] := fun hik => by
          have := listed_reach hok (fun i => listed.getD i false) hcl k _ (Array.getElem?_eq_getElem hks) (hcl k _ (Array.getElem?_eq_getElem hks) hkl) i hik
          rw [hil'] at this; cases this
         cases he : (C.getD i []).isEmpty
         · replace hb : Rel w w' := by unfold StepR at hb; rw [he] at hb; exact hb
           exact hweak i him he k hk hki hiR hkC x _ _ _ (hV k hk hkl hb0) hb
         · replace hb : Below w.heap.size w w' := by unfold StepR at hb; rw [he] at hb; exact hb
           exact ((V x).getD k VAny).st _ _ _ (hV k hk hkl hb0) hb
    unfold wpOp at hob' ⊢
    simp only [ho] at hob' ⊢
    rw [wanted_same hagree]
    split
    · rename_i hw
      rw [if_pos hw] at hob'
      rcases hob' with h | ⟨_, h⟩
      case inr => exact absurd h NoWay.lets
      refine .inl (Oper.wp_mono ?_ (wp_move (Q := Q) (d := d) (R := fun v w' => ((V x).getD i VAny).p v w' ∧ StepR C Rel i w w') (exec_same hso hagree) hd (by unfold putS; rw [hsz1.1]; exact hdsz)
       (Oper.wp_mono (fun a' w' ⟨v, h1, h2, h3, h4⟩ => ⟨v, h1 d hdst, by unfold putS; rw [hsz1.2]; exact h2, h3, h4⟩) h)))
      rintro a' w' ⟨v, rfl, hv, hb⟩
      exact next v w' hv hb
    · rename_i hw
      rw [if_neg hw] at hob'
      obtain ⟨v, h1, _, h3, h4⟩ := hob'
      have hvu : v = undef := by
       have := h1 d hdst
       rw [hd] at this
       simp [Act.put, putS, hsz1.1, hdsz] at this
       exact this.symm
      rw [hd]
      exact next undef w (hvu ▸ h3) h4
/-- **A region that draws its order**: each of its first m operations is shown once; what is left behind them goes on. -/
theorem wp_tasksR {id m : Nat} {Rel : World → World → Prop} (R C : List (List Nat)) (V : (Nat → Value) → List VP) (S : World → Prop) {a0 : Act} {w : World} (hm : P.follows .mixedOrders = true) (hok : tasksOk ops m a0.tmps.size R = true)
    (hdep : ∀ x x' j, (∀ i ∈ R.getD j [], x i = x' i) → (V x).getD j VAny = (V x').getD j VAny) (hweak : ∀ i, i < m → (C.getD i []).isEmpty = false → ∀ k, k < m → k ≠ i → i ∉ R.getD k [] → k ∉ C.getD i [] → ∀ x v w w', ((V x).getD k VAny).p v w → Rel w w' → ((V x).getD k VAny).p v w') (hS0 : S w.drew) (hSt : ∀ j w w', S w → StepR C Rel j w w' → S w') (hob : ∀ x j, j < m → ObR P ops S R C Rel m V x a0 j)
    (hend : ∀ x w', S w' → (∀ i ∈ endR C m, ((V x).getD i VAny).p (x i) w') → wpAny P .any ops Q (ops.size - m) (listedTo ops.size m) (putS ops x a0 m) w') : (Code.region id ops true).wp P Q a0 w := by
 have hmn := (tasks_spec hok).1
 have hf : ∀ i, (Array.replicate ops.size false).getD i false = false := fun i => by simp [Array.getD]
 have h := tasks_goR (Q := Q) hok hdep hweak hSt hob hend m (List.range m) (Array.replicate ops.size false) w.drew (fun _ => undef) (by simp) List.nodup_range (fun i => by rw [hf]; simp) (by simp) (fun i _ _ => hf i) (fun j o _ hj => by rw [hf] at hj; cases hj) hS0
  (fun i _ hi => by rw [hf] at hi; cases hi)
 refine wp_region_any hm ?_
 rw [show ops.size - m + m = ops.size by omega, putD_congr (ops := ops) _ (fun _ => false) _ (fun _ => undef) a0 m (fun i _ => ⟨hf i, fun _ => rfl⟩)] at h
 have e : ∀ n, putD ops (fun _ => false) (fun _ => undef) a0 n = a0 := fun n => by
  induction n with
  | zero => rfl
  | succ n ih => unfold putD; simpa using ih
 rw [e] at h
 exact h
/-- What is to be shown, operation by operation, in the text's order; the frame goes along. -/
def ObsR (P : Program) (ops : Array Oper) (Q : Exit → Act → World → Prop) (S : World → Prop) (R C : List (List Nat)) (Rel : World → World → Prop) (m : Nat) (V : (Nat → Value) → List VP) (x : Nat → Value) : Nat → Nat → Act → Prop
 | 0, j, a => ∀ w, S w → (∀ i ∈ endR C m, ((V x).getD i VAny).p (x i) w) → wpAny P .any ops Q (ops.size - j) (listedTo ops.size j) a w
 | r + 1, j, a => (∀ w, S w → (∀ i ∈ availR R C m j, ((V x).getD i VAny).p (x i) w) →
     wpOp P ops NoWay j (fun a' w' => ∃ v, (∀ d, dstOf ops j = some d → a'.tmps[d]? = some v) ∧ a'.defers = a.defers ∧ ((V x).getD j VAny).p v w' ∧ StepR C Rel j w w') a w) ∧
  ObsR P ops Q S R C Rel m V x r (j + 1) (a.put (dstOf ops j) (x j))
theorem obs_allR {S : World → Prop} {R C : List (List Nat)} {Rel : World → World → Prop} {m : Nat} {V : (Nat → Value) → List VP} {x : Nat → Value} {a0 : Act} : ∀ (r j : Nat), ObsR P ops Q S R C Rel m V x r j (putS ops x a0 j) →
    (∀ k, j ≤ k → k < j + r → ObR P ops S R C Rel m V x a0 k) ∧ ∀ w, S w → (∀ i ∈ endR C m, ((V x).getD i VAny).p (x i) w) → wpAny P .any ops Q (ops.size - (j + r)) (listedTo ops.size (j + r)) (putS ops x a0 (j + r)) w := by
 intro r
 induction r with
 | zero => intro j h; exact ⟨fun k h1 h2 => by omega, h⟩
 | succ r ih =>
  intro j h
  obtain ⟨h1, h2⟩ := h
  have h2' : ObsR P ops Q S R C Rel m V x r (j + 1) (putS ops x a0 (j + 1)) := h2
  obtain ⟨h3, h4⟩ := ih (j + 1) h2'
  refine ⟨fun k hk1 hk2 => ?_, by rw [show j + (r + 1) = j + 1 + r by omega]; exact h4⟩
  by_cases hk : k = j
  · subst hk
    intro w hS hV
    have h := h1 w hS hV
    rw [show (putS ops x a0 k).defers = a0.defers from (putD_size _ _ _ _).2] at h
    exact h
  · exact h3 k (by omega) (by omega)
theorem wp_obsR {id : Nat} (m : Nat) (Rel : World → World → Prop) (R C : List (List Nat)) (V : (Nat → Value) → List VP) (S : World → Prop) {a0 : Act} {w : World} (hm : P.follows .mixedOrders = true) (hok : tasksOk ops m a0.tmps.size R = true)
    (hdep : ∀ x x' j, (∀ i ∈ R.getD j [], x i = x' i) → (V x).getD j VAny = (V x').getD j VAny) (hweak : ∀ i, i < m → (C.getD i []).isEmpty = false → ∀ k, k < m → k ≠ i → i ∉ R.getD k [] → k ∉ C.getD i [] → ∀ x v w w', ((V x).getD k VAny).p v w → Rel w w' → ((V x).getD k VAny).p v w') (hSt : ∀ j w w', S w → StepR C Rel j w w' → S w') (hS0 : S w.drew) (h : ∀ x, ObsR P ops Q S R C Rel m V x m 0 a0) : (Code.region id ops true).wp P Q a0 w :=
 wp_tasksR (m := m) (Rel := Rel) R C V S hm hok hdep hweak hS0 hSt (fun x j hj => (obs_allR m 0 (h x)).1 j (by omega) (by omega)) (fun x w' hS hV => by
  have := (obs_allR m 0 (h x)).2 w' hS (hV)
  rwa [Nat.zero_add] at this)
theorem obs_stepR {S : World → Prop} {R C : List (List Nat)} {Rel : World → World → Prop} {m : Nat} {V : (Nat → Value) → List VP} {x : Nat → Value} {r j : Nat} {a : Act} {o : Oper} {d : Tmp} (ho : ops[j]? = some o) (hd : o.dst = some d)
    (h : ∀ w, S w → (∀ i ∈ availR R C m j, ((V x).getD i VAny).p (x i) w) → ∀ K : Act → World → Prop, Shut (∀ a' w' v, a'.tmps[d]? = some v → a'.defers = a.defers → ((V x).getD j VAny).p v w' → StepR C Rel j w w' → K a' w') →
     if Region.wanted o (yielded ops a.tmps) = true then Oper.wp P o a w K NoWay else K (a.put o.dst undef) w)
    (hr : ObsR P ops Q S R C Rel m V x r (j + 1) { a with tmps := a.tmps.setIfInBounds d (x j) }) : ObsR P ops Q S R C Rel m V x (r + 1) j a := by
 have hdst : dstOf ops j = some d := by simp [dstOf, ho, hd]
 refine ⟨fun w hS hV => wpOp_step ho (fun K hK => ?_), by rw [hdst]; exact hr⟩
 exact h w hS hV K (fun a' w' v h1 h2 h3 h4 => hK a' w' ⟨v, fun d' hd' => by rw [hdst] at hd'; injection hd' with hd'; exact hd' ▸ h1, h2, h3, h4⟩)
/-- A step, its listing read by itself. -/
theorem zSR {S : World → Prop} {R C : List (List Nat)} {Rel : World → World → Prop} {m : Nat} {V : (Nat → Value) → List VP} {x : Nat → Value} {r j : Nat} {a a' : Act} {o : Oper} {d : Tmp}
    (h : ∀ w, S w → (∀ i ∈ availR R C m j, ((V x).getD i VAny).p (x i) w) → ∀ K : Act → World → Prop, Shut (∀ a' w' v, a'.tmps[d]? = some v → a'.defers = a.defers → ((V x).getD j VAny).p v w' → StepR C Rel j w w' → K a' w') →
     if Region.wanted o (yielded ops a.tmps) = true then Oper.wp P o a w K NoWay else K (a.put o.dst undef) w)
    (hr : ObsR P ops Q S R C Rel m V x r (j + 1) a') (ho : ops[j]? = some o := by exact Eq.trans (by simp only [zA, zB, zC]; exact rfl) rfl) (hd : o.dst = some d := by exact rfl)
    (ha : { a with tmps := a.tmps.setIfInBounds d (x j) } = a' := by simp only [zD, zE, zF]; exact rfl) : ObsR P ops Q S R C Rel m V x (r + 1) j a := by
 subst ha
 exact obs_stepR ho hd h hr
/-- Those that bear an append in place: their values are plain. -/
theorem weak_ofR {m : Nat} {Rel : World → World → Prop} {R C : List (List Nat)} {V : (Nat → Value) → List VP} (Wk : List Nat)
    (hchk : ((List.range m).all fun i => (C.getD i []).isEmpty || (List.range m).all fun k => k == i || (R.getD k []).contains i || (C.getD i []).contains k || Wk.contains k) = true)
    (hW : ∀ k ∈ Wk, ∀ x v w w', ((V x).getD k VAny).p v w → Rel w w' → ((V x).getD k VAny).p v w') :
    ∀ i, i < m → (C.getD i []).isEmpty = false → ∀ k, k < m → k ≠ i → i ∉ R.getD k [] → k ∉ C.getD i [] → ∀ x v w w', ((V x).getD k VAny).p v w → Rel w w' → ((V x).getD k VAny).p v w' := by
 intro i hi he k hk hne hR hC x v w w' hp hrel
 have h1 := List.all_eq_true.1 hchk i (List.mem_range.2 hi)
 rw [he, Bool.false_or] at h1
 have h2 := List.all_eq_true.1 h1 k (List.mem_range.2 hk)
 rw [Bool.or_eq_true, Bool.or_eq_true, Bool.or_eq_true, beq_iff_eq, List.contains_iff_mem, List.contains_iff_mem, List.contains_iff_mem] at h2
 rcases h2 with ((h2 | h2) | h2) | h2
 · exact absurd h2 hne
 · exact absurd h2 hR
 · exact absurd h2 hC
 · exact hW k h2 x v w w' hp hrel
end
end Go.Proofs.YtmkjdpnoloofjaaGreat

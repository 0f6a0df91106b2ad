/-
  LawFnTop: part 6 of the texts that the proof needs. No condition.
-/
import Derived.Test.YtmkjdpnoloofjaaGreatT5
namespace Go.Proofs.YtmkjdpnoloofjaaGreat
open Go.RowKit
theorem RdII.nil (w : World) (A : Option Addr) : RdII w A 0 [] := ⟨[], Rd.nil w A, rfl, fun k h => absurd h (by simp)⟩
theorem codeVs_nil (P : Int) (sq : List Int) (ms : List (List Int)) : codeVs P sq ms [] = codeR P sq ms := by
 unfold codeVs codeR
 by_cases h : codeM P sq ms = 0
 · rw [if_pos h, if_pos h]
   have : codeV P sq [] = 0 := by unfold codeV; rw [(codeM_sp h).1]; rfl
   rw [if_pos this]
 · rw [if_neg h, if_neg h]
/-- What a code 0 says. -/
theorem codeR_zero {P : Int} {sq : List Int} {ms : List (List Int)} (h : codeR P sq ms = 0) : codeM P sq ms = 0 ∧ regB sq = true := by
 unfold codeR at h
 by_cases h1 : codeM P sq ms = 0
 · rw [if_pos h1] at h
   cases h2 : regB sq
   · rw [h2] at h; simp at h
   · exact ⟨h1, rfl⟩
 · rw [if_neg h1] at h; exact absurd h h1
theorem isMu_spec {P : Int} {sq ys : List Int} (h : isMu P sq ys = true) : ys.length = pw sq.length ∧ NumsL P ys := by
 unfold isMu at h
 simp only [Bool.and_eq_true, beq_iff_eq] at h
 exact ⟨by have := h.1; omega, nums_numsL h.2⟩
theorem codeM_spec {P : Int} {sq : List Int} {ms : List (List Int)} (h : codeM P sq ms = 0) : isP P = true ∧ 2 ≤ P ∧ P ≤ 13 ∧ 1 ≤ sq.length ∧ sq.length ≤ 6 ∧ NumsL P sq ∧ ∀ ys ∈ ms, ys.length = pw sq.length ∧ NumsL P ys := by
 obtain ⟨h1, h2⟩ := codeM_sp h
 obtain ⟨hp, hd1, hd2, hnum⟩ := isSp_dim h1
 have := isP_ge hp
 exact ⟨hp, by omega, by omega, hd1, hd2, nums_numsL hnum, fun ys hy => isMu_spec (h2 ys hy)⟩
/-- The code of a regular space and a versor. -/
def codeVr (P : Int) (sq xs : List Int) : Int := if codeR P sq [xs] = 0 then (if versB P sq sq.length xs then 0 else 5) else codeR P sq [xs]
theorem ret_tupS {A : Option Addr} {k c : Nat} {x y : Int} (h2 : x = y) : Ending.returned (.tuple #[.slice A k c, .int .i64 x]) = .returned (.tuple #[.slice A k c, .int .i64 y]) := by rw [h2]
theorem codeVr_eq {P : Int} {sq xs : List Int} (h : codeR P sq [xs] = 0) : codeVr P sq xs = if versB P sq sq.length xs then 0 else 5 := by unfold codeVr; rw [if_pos h]
theorem codeVr_ne {P : Int} {sq xs : List Int} (h : ¬ codeR P sq [xs] = 0) : codeVr P sq xs = codeR P sq [xs] := by unfold codeVr; rw [if_neg h]
end Go.Proofs.YtmkjdpnoloofjaaGreat
namespace Go.Proofs.YtmkjdpnoloofjaaGreat
section
variable {P : Int} {sq xs ys : List Int}
end
theorem codeM_mk {P : Int} {sq : List Int} {ms : List (List Int)} (h1 : isSp P sq = true) (h : ∀ ys ∈ ms, ys.length = pw sq.length ∧ NumsL P ys) : codeM P sq ms = 0 := by
 unfold codeM
 rw [if_pos h1, if_neg]
 intro hh
 obtain ⟨ys, hy, e⟩ := List.any_eq_true.1 hh
 obtain ⟨h2, h3⟩ := h ys hy
 have h4 : isMu P sq ys = true := by
  unfold isMu nums
  rw [h2, Bool.and_eq_true]
  refine ⟨by simp, List.all_eq_true.2 fun x hx => ?_⟩
  have := h3 x hx
  simp [inR]
  omega
 rw [h4] at e
 simp at e
section
variable {p : Int} {sq : List Int}
theorem cg_wit {p a b : Int} : a % p = b % p ↔ ∃ k, a = b + p * k := by
 constructor
 · intro h
   have h1 := Int.emod_add_mul_ediv a p
   have h2 := Int.emod_add_mul_ediv b p
   exact ⟨a / p - b / p, by grind⟩
 · rintro ⟨k, rfl⟩
   rw [Int.add_mul_emod_self_left]
theorem versL_prod (hp : 0 < p) (h2 : 2 ≤ p) (vs : List (List Int)) (hvs : ∀ v ∈ vs, NumsL p v) : versL p sq sq.length vs = (Cl.prod hp vs : Cl p sq).l := by
 unfold versL Cl.prod
 have key : ∀ (y : Cl p sq), vs.foldl (fun o v => mulL p sq o (vecTo sq.length v sq.length)) y.l = (vs.foldl (fun x v => x * Cl.vec hp v) y).l := by
  induction vs with
  | nil => intro y; rfl
  | cons v vs ih =>
   intro y
   rw [List.foldl_cons, List.foldl_cons, ← ih (fun u hu => hvs u (List.mem_cons_of_mem _ hu)), Cl.mul_l, Cl.vec_l hp (hvs v (List.mem_cons_self ..))]
 rw [← key, Cl.one_l h2]
theorem bil_same (hP : isP p = true) {v : List Int} (hl : v.length = sq.length) : pairL p sq v v = 0 ↔ bil sq v v % p = 0 := by
 have h1 := pairL_bil (p := p) (u := v) hl
 have h3 := (isP_ge hP).1
 have h2 := pairL_small (P := p) (by omega) sq v v
 rw [Int.emod_eq_of_lt h2.1 h2.2] at h1
 rw [h1]
/-- The sandwich of a product of vectors. -/
theorem sand_prod (hP : isP p = true) (h6 : sq.length ≤ 6) (vs : List (List Int)) (hvs : ∀ v ∈ vs, v.length = sq.length ∧ NumsL p v ∧ bil sq v v % p ≠ 0) {w : List Int} (hw : w.length = sq.length) (hwn : NumsL p w) :
    sandL p sq sq.length (versL p sq sq.length vs) w = refls p sq vs w := by
 have h3 := (isP_ge hP).1
 have hp : 0 < p := by omega
 have hne : ∀ v ∈ vs, bil sq v v % p ≠ 0 := fun v hv => (hvs v hv).2.2
 obtain ⟨-, hn⟩ := Cl.prod_vers hP hp h6 vs hne
 have hact := Cl.prod_acts hp hP h6 vs hne hw
 have hnn := nrmP_ne hP vs hne
 rw [versL_prod hp (by omega) vs fun v hv => (hvs v hv).2.1]
 obtain ⟨x, hx⟩ : ∃ x : Cl p sq, x = Cl.prod hp vs := ⟨_, rfl⟩
 rw [← hx] at hn hact ⊢
 unfold sandL vinvL
 rw [hn, ← Cl.rev_l, ← Cl.sm_l, ← Cl.invo_l, ← Cl.vec_l hp hwn, ← Cl.mul_l, ← Cl.mul_l, Cl.mul_sm, hact, Cl.sm_sm]
 have h1 : (invF p (nrmP sq vs % p) * nrmP sq vs) % p = (1 : Int) % p := by
  rw [Int.mul_comm, inv_mod hP hnn, Int.emod_eq_of_lt (by omega) (by omega)]
 rw [Cl.sm_cg h1, Cl.one_sm, Cl.vec_at hp (refls_nums hp vs hwn) ((refls_len vs w).trans hw)]
theorem getD_plus {x y : List Int} {k : Int} {i : Nat} (hi : i < x.length) : (plusL p x y k).getD i 0 = (x.getD i 0 + k * y.getD i 0) % p := by
 unfold plusL
 rw [tab_getD hi]
theorem refl_half (hP : isP p = true) {a q : Int} (ha : a % p ≠ 0) (hq : 2 * q % p = (-a) % p) : (-(2 * q * invF p (a % p))) % p = 1 % p := by
 have h3 := (isP_ge hP).1
 have h1 : a * invF p (a % p) % p = 1 % p := by rw [inv_mod hP ha, Int.emod_eq_of_lt (by omega) (by omega)]
 obtain ⟨k, hk⟩ := cg_wit.1 h1
 obtain ⟨l, hl⟩ := cg_wit.1 hq
 exact cg_wit.2 ⟨k - l * invF p (a % p), by grind⟩
/-- The versor between two vectors of the same norm leads the one to the other. -/
theorem vb_refls (hP : isP p = true) {u v : List Int} (hu : u.length = sq.length) (hun : NumsL p u) (hv : v.length = sq.length) (hvn : NumsL p v) (hq : bil sq u u % p = bil sq v v % p) (h0 : bil sq u u % p ≠ 0) :
    (bil sq (plusL p v u (-1)) (plusL p v u (-1)) % p ≠ 0 → refls p sq [plusL p v u (-1)] u = v) ∧
    (bil sq (plusL p v u (-1)) (plusL p v u (-1)) % p = 0 → bil sq (plusL p v u 1) (plusL p v u 1) % p ≠ 0 ∧ refls p sq [v, plusL p v u 1] u = v) := by
 have h3 := (isP_ge hP).1
 have hp : 0 < p := by omega
 have hdl : ∀ k, (plusL p v u k).length = sq.length := fun k => (plusL_len _ _ _ _).trans hv
 -- products with the sums
 have b1 : ∀ k w, bil sq (plusL p v u k) w % p = (bil sq v w + k * bil sq u w) % p := fun k w => bil_plus hv k
 have b2 : ∀ k, bil sq (plusL p v u k) (plusL p v u k) % p = (bil sq v v + 2 * k * bil sq u v + k * k * bil sq u u) % p := fun k => by
  have e1 := b1 k (plusL p v u k)
  have e2 := b1 k v
  have e3 := b1 k u
  rw [bil_symm sq v, bil_symm sq u] at e1
  rw [bil_symm sq v u] at e3
  obtain ⟨r1, e1⟩ := cg_wit.1 e1
  obtain ⟨r2, e2⟩ := cg_wit.1 e2
  obtain ⟨r3, e3⟩ := cg_wit.1 e3
  exact cg_wit.2 ⟨r1 + r2 + k * r3, by grind⟩
 obtain ⟨rq, eq⟩ := cg_wit.1 hq
 refine ⟨fun hD => ?_, fun hD => ?_⟩
 · have hq2 : 2 * bil sq (plusL p v u (-1)) u % p = (-bil sq (plusL p v u (-1)) (plusL p v u (-1))) % p := by
    obtain ⟨r1, e1⟩ := cg_wit.1 (b1 (-1) u)
    obtain ⟨r2, e2⟩ := cg_wit.1 (b2 (-1))
    rw [bil_symm sq v u] at e1
    exact cg_wit.2 ⟨2 * r1 + r2 - rq, by grind⟩
   have hc := refl_half hP hD hq2
   show reflF p sq (plusL p v u (-1)) u = v
   unfold reflF
   rw [plusL_mod p u _ hc]
   refine list_ext_getD 0 (by rw [plusL_len, hu, hv]) fun i hi => ?_
   rw [plusL_len] at hi
   rw [getD_plus hi, getD_plus (by omega)]
   obtain ⟨v1, v2⟩ := hvn.getD hp i
   refine cg_eq ⟨Int.emod_nonneg _ (by omega), Int.emod_lt_of_pos _ hp⟩ ⟨v1, v2⟩ ?_
   rw [cg_self, Int.one_mul, Int.add_emod, cg_self, ← Int.add_emod]
   congr 1
   omega
 · obtain ⟨r2, e2⟩ := cg_wit.1 (b2 (-1))
   obtain ⟨r3, e3⟩ := cg_wit.1 (b2 1)
   obtain ⟨r4, e4⟩ := cg_wit.1 (hD.trans (Int.zero_emod p).symm)
   have hh := half_ok hP
   obtain ⟨rh, eh⟩ := cg_wit.1 hh
   -- (u, v) is the norm
   have hb : bil sq u v % p = bil sq u u % p := by
    obtain ⟨h, hh2⟩ : ∃ h, h = (p + 1) / 2 := ⟨_, rfl⟩
    rw [← hh2] at eh
    have e5 : 2 * (bil sq u v - bil sq u u) = p * (r2 - rq - r4) := by grind
    exact cg_wit.2 ⟨h * (r2 - rq - r4) - rh * (bil sq u v - bil sq u u), by grind⟩
   obtain ⟨rb, eb⟩ := cg_wit.1 hb
   have hD1 : bil sq (plusL p v u 1) (plusL p v u 1) % p = 4 * bil sq u u % p := cg_wit.2 ⟨r3 + 2 * rb - rq, by grind⟩
   have hD1n : bil sq (plusL p v u 1) (plusL p v u 1) % p ≠ 0 := by
    rw [hD1]
    refine mul_ne hP ?_ h0
    have h13 := (isP_ge hP).2
    have hodd : isP p = true := hP
    intro h4
    have : p ∣ 4 := Int.dvd_of_emod_eq_zero h4
    have hle := Int.le_of_dvd (by omega) this
    have : p = 3 := by
     simp [isP] at hodd
     omega
    subst this
    exact absurd h4 (by decide)
   refine ⟨hD1n, ?_⟩
   have hq2 : 2 * (-bil sq (plusL p v u 1) u) % p = (-bil sq (plusL p v u 1) (plusL p v u 1)) % p := by
    obtain ⟨r1, e1⟩ := cg_wit.1 (b1 1 u)
    rw [bil_symm sq v u] at e1
    obtain ⟨r6, e6⟩ := cg_wit.1 hD1
    exact cg_wit.2 ⟨r6 - 2 * r1 - 2 * rb, by grind⟩
   have hc := refl_half hP hD1n hq2
   have hc1 : (-(2 * bil sq (plusL p v u 1) u * invF p (bil sq (plusL p v u 1) (plusL p v u 1) % p))) % p = (-1) % p := by
    obtain ⟨k, hk⟩ := cg_wit.1 hc
    exact cg_wit.2 ⟨-k, by grind⟩
   have hr1 : reflF p sq (plusL p v u 1) u = plusL p u (plusL p v u 1) (-1) := by
    unfold reflF
    exact plusL_mod p u _ hc1
   obtain ⟨m, hm⟩ : ∃ m, m = plusL p u (plusL p v u 1) (-1) := ⟨_, rfl⟩
   have hml : m.length = sq.length := by rw [hm, plusL_len, hu]
   have hmi : ∀ i, i < sq.length → m.getD i 0 % p = (-(v.getD i 0)) % p := fun i hi => by
    rw [hm, getD_plus (by omega), getD_plus (by omega), cg_self]
    obtain ⟨k, hk⟩ := cg_wit.1 (cg_self p (v.getD i 0 + 1 * u.getD i 0))
    exact cg_wit.2 ⟨-k, by grind⟩
   have hbm : bil sq v m % p = (-(bil sq v v)) % p := by
    unfold bil
    rw [← Int.neg_one_mul, ← sumTo_mul]
    refine sumTo_mod p fun i hi => ?_
    obtain ⟨k, hk⟩ := cg_wit.1 (hmi i hi)
    exact cg_wit.2 ⟨k * v.getD i 0 * sq.getD i 0, by grind⟩
   show reflF p sq v (reflF p sq (plusL p v u 1) u) = v
   rw [hr1, ← hm]
   have hvv : bil sq v v % p ≠ 0 := by rw [← hq]; exact h0
   have hi : bil sq v v * invF p (bil sq v v % p) % p = 1 % p := by rw [inv_mod hP hvv, Int.emod_eq_of_lt (by omega) (by omega)]
   have hc2 : (-(2 * bil sq v m * invF p (bil sq v v % p))) % p = 2 % p := by
    obtain ⟨k, hk⟩ := cg_wit.1 hi
    obtain ⟨l, hl⟩ := cg_wit.1 hbm
    exact cg_wit.2 ⟨2 * k - 2 * l * invF p (bil sq v v % p), by grind⟩
   unfold reflF
   rw [plusL_mod p m _ hc2]
   refine list_ext_getD 0 (by rw [plusL_len, hml, hv]) fun i hi => ?_
   rw [plusL_len] at hi
   rw [getD_plus hi]
   obtain ⟨v1, v2⟩ := hvn.getD hp i
   refine cg_eq ⟨Int.emod_nonneg _ (by omega), Int.emod_lt_of_pos _ hp⟩ ⟨v1, v2⟩ ?_
   rw [cg_self]
   obtain ⟨k, hk⟩ := cg_wit.1 (hmi i (by omega))
   exact cg_wit.2 ⟨k, by grind⟩
/-- Products of vectors are versors: as lists. -/
theorem versL_vers (hP : isP p = true) (h6 : sq.length ≤ 6) (vs : List (List Int)) (hvs : ∀ v ∈ vs, v.length = sq.length ∧ NumsL p v ∧ bil sq v v % p ≠ 0) :
    versB p sq sq.length (versL p sq sq.length vs) = true ∧ nrmL p sq (versL p sq sq.length vs) = nrmP sq vs % p := by
 have h3 := (isP_ge hP).1
 have hp : 0 < p := by omega
 rw [versL_prod hp (by omega) vs fun v hv => (hvs v hv).2.1]
 exact Cl.prod_vers hP hp h6 vs fun v hv => (hvs v hv).2.2
theorem codeVr_mk {x : List Int} (hsp : isSp p sq = true) (hr : regB sq = true) (hx : x.length = pw sq.length) (hxn : NumsL p x) (hv : versB p sq sq.length x = true) : codeM p sq [x] = 0 ∧ codeR p sq [x] = 0 ∧ codeVr p sq x = 0 := by
 have h1 : codeM p sq [x] = 0 := codeM_mk hsp (fun ys hy => by rw [List.mem_singleton.1 hy]; exact ⟨hx, hxn⟩)
 have h2 : codeR p sq [x] = 0 := by unfold codeR; rw [if_pos h1, hr]; rfl
 exact ⟨h1, h2, by unfold codeVr; rw [if_pos h2, hv]; rfl⟩
end
section
variable {p : Int} {sq : List Int}
instance : Std.Associative (α := Cl p sq) (· + ·) := ⟨Cl.add_assoc⟩
instance : Std.Commutative (α := Cl p sq) (· + ·) := ⟨Cl.add_comm⟩
end
section
variable {p : Int} {sq : List Int}
theorem inv_one (hP : isP p = true) {a : Int} (h0 : 0 ≤ a ∧ a < p) (ha : a ≠ 0) : a * invF p a % p = 1 % p := by
 have h3 := (isP_ge hP).1
 have := inv_mod hP (a := a) (by rw [Int.emod_eq_of_lt h0.1 h0.2]; exact ha)
 rw [Int.emod_eq_of_lt h0.1 h0.2] at this
 rw [this, Int.emod_eq_of_lt (by omega) (by omega)]
theorem Cl.prod_append (hp : 0 < p) (a b : List (List Int)) : (Cl.prod hp (a ++ b) : Cl p sq) = Cl.prod hp a * Cl.prod hp b := by
 unfold Cl.prod
 rw [List.foldl_append]
 exact Cl.prod_from hp b _
/-- What a reflection does to products. -/
theorem bil_plus2 {w v : List Int} (hw : w.length = sq.length) (k : Int) : bil sq (plusL p w v k) (plusL p w v k) % p = (bil sq w w + 2 * k * bil sq v w + k * k * bil sq v v) % p := by
 have e1 : bil sq (plusL p w v k) (plusL p w v k) % p = _ := bil_plus hw k
 have e2 : bil sq (plusL p w v k) w % p = _ := bil_plus hw k
 have e3 : bil sq (plusL p w v k) v % p = _ := bil_plus hw k
 rw [bil_symm sq w, bil_symm sq v] at e1
 rw [bil_symm sq w v] at e3
 obtain ⟨r1, e1⟩ := cg_wit.1 e1
 obtain ⟨r2, e2⟩ := cg_wit.1 e2
 obtain ⟨r3, e3⟩ := cg_wit.1 e3
 exact cg_wit.2 ⟨r1 + r2 + k * r3, by grind⟩
theorem refl_refl (hP : isP p = true) {v w : List Int} (hw : w.length = sq.length) (hwn : NumsL p w) (hv : bil sq v v % p ≠ 0) : reflF p sq v (reflF p sq v w) = w := by
 have h3 := (isP_ge hP).1
 have hp : 0 < p := by omega
 have hi : bil sq v v * invF p (bil sq v v % p) % p = 1 % p := by rw [inv_mod hP hv, Int.emod_eq_of_lt (by omega) (by omega)]
 obtain ⟨i, hii⟩ : ∃ i, i = invF p (bil sq v v % p) := ⟨_, rfl⟩
 obtain ⟨k, hk⟩ := cg_wit.1 hi
 have hb : bil sq v (reflF p sq v w) % p = (-bil sq v w) % p := by
  have e : bil sq (reflF p sq v w) v % p = (bil sq w v + -(2 * bil sq v w * i) * bil sq v v) % p := by rw [hii]; exact bil_plus hw _
  rw [bil_symm sq w v] at e
  rw [bil_symm sq v, e]
  rw [← hii] at hk
  exact cg_wit.2 ⟨-(2 * bil sq v w * k), by grind⟩
 obtain ⟨m, hm⟩ : ∃ m, m = reflF p sq v w := ⟨_, rfl⟩
 have hml : m.length = sq.length := by rw [hm]; exact reflF_len.trans hw
 rw [← hm] at hb ⊢
 have hc : (-(2 * bil sq v m * invF p (bil sq v v % p))) % p = (2 * bil sq v w * i) % p := by
  rw [← hii]
  obtain ⟨l, hl⟩ := cg_wit.1 hb
  exact cg_wit.2 ⟨-(2 * l * i), by grind⟩
 unfold reflF
 rw [plusL_mod p m _ hc]
 refine list_ext_getD 0 (by rw [plusL_len, hml, hw]) fun j hj => ?_
 rw [plusL_len] at hj
 rw [getD_plus hj]
 obtain ⟨v1, v2⟩ := hwn.getD hp j
 refine cg_eq ⟨Int.emod_nonneg _ (by omega), Int.emod_lt_of_pos _ hp⟩ ⟨v1, v2⟩ ?_
 have e4 : m.getD j 0 = (w.getD j 0 + -(2 * bil sq v w * i) * v.getD j 0) % p := by rw [hm, hii]; unfold reflF; exact getD_plus (by omega)
 rw [cg_self, e4, Int.add_emod, cg_self, ← Int.add_emod]
 congr 1
 grind
theorem rflL_reflF (hP : isP p = true) {u v : List Int} (hu : u.length = sq.length) : rflL p sq u v = reflF p sq u v := by
 have h3 := (isP_ge hP).1
 have h1 := pairL_bil (p := p) (u := v) hu
 have h2 := pairL_bil (p := p) (u := u) hu
 have hs := pairL_small (P := p) (by omega) sq u u
 rw [Int.emod_eq_of_lt hs.1 hs.2] at h2
 unfold rflL reflF
 rw [h2]
 refine plusL_mod p v u ?_
 obtain ⟨k, hk⟩ := cg_wit.1 h1
 exact cg_wit.2 ⟨-(2 * k * invF p (bil sq u u % p)), by grind⟩
/-- A good list of vectors: of the right length, numbers, norms other than 0. -/
def Good (p : Int) (sq : List Int) (L : List (List Int)) : Prop := ∀ v ∈ L, v.length = sq.length ∧ NumsL p v ∧ bil sq v v % p ≠ 0
theorem Good.ne {L : List (List Int)} (h : Good p sq L) : ∀ v ∈ L, bil sq v v % p ≠ 0 := fun v hv => (h v hv).2.2
theorem Good.nums {L : List (List Int)} (h : Good p sq L) : ∀ v ∈ L, NumsL p v := fun v hv => (h v hv).2.1
end
end Go.Proofs.YtmkjdpnoloofjaaGreat
namespace Go.Proofs.YtmkjdpnoloofjaaGreat
open Go.RowKit
set_option maxHeartbeats 1600000 in
set_option maxRecDepth 8000 in
theorem matrixBy_turn (g gx : Nat) (P : Int) (A : Option Addr) (n c : Nat) (sq : List Int) (X : Option Addr) (cx : Nat) (xs : List Int) (w : World) (hp : 2 ≤ P) (hp2 : P ≤ 13) (hn : n ≤ 6) (h0 : 0 < n) (ha : Rd w A n (ints sq)) (hs : NumsL P sq) (hx : Rd w X (pw n) (ints xs)) (hxs : NumsL P xs) (hcx : pw n ≤ cx) (HP : isP P = true) (kg : Blk w g 26 #[.int .i64 P, .slice A n c]) (kx : Blk w gx 24 #[.slice X (pw n) cx]) :
    Calls Tryz.prog 99 #[.agg #[.int .i64 P, .slice A n c], .func (.func 230) #[] #[.pointer (some ⟨g, 0, none⟩), .pointer (some ⟨gx, 0, none⟩)]] w fun e w' => ∃ A' c', e = .returned (.slice A' n c') ∧ MkII w w' A' n c' (transL (colsL P sq n xs)) := by
 have hB0 : Below w.heap.size w (w.alloc (.cells #[.int .i64 P, .slice A n c] 26)) := zG.alloc (Nat.le_refl _) _
 have k0 : Blk (w.alloc (.cells #[.int .i64 P, .slice A n c] 26)) w.heap.size 26 #[.int .i64 P, .slice A n c] := Blk.new _ _ _
 have hB1 := hB0.alloc (by simp) (.cells #[] 24)
 have k1 := k0.alloc (.cells #[] 24)
 have hM1 : MkII w ((w.alloc (.cells #[.int .i64 P, .slice A n c] 26)).alloc (.cells #[] 24)) (some ⟨w.heap.size + 1, 0, none⟩) 0 0 [] := by
  have := MkII.empty hB0
  simpa using this
 clear k0
 obtain ⟨q0, q1⟩ := k1.two
 go_enter Tryz.func99, Tryz.ntmps99
 go_wp2_with fail
 refine (dim_any _ _ _ _ _).mono ?_
 rintro e w2 ⟨rfl, hb2⟩
 have hM2 := hM1.below hb2
 have hB2 := hB1.trans (hb2.mono hB1.size)
 clear hM1 q0 q1 k1 hB0 hB1
 go_wp2_with fail
 refine (unit_any n _ (by omega)).mono ?_
 rintro e w3 ⟨U, cU, rfl, hU⟩
 have hM3 := hM2.below hU.b
 have hB3 := hB2.trans (hU.b.mono hB2.size)
 have hsz2 : w.heap.size + 1 < w2.heap.size := by have := hb2.size; simp at this; omega
 have hKp : Keeps w2 w3 w3 (.slice (some ⟨w.heap.size + 1, 0, none⟩) 0 0) := ⟨Nat.le_refl _, fun _ _ _ => rfl, fun gb e => .inl (lt_of_own e hsz2)⟩
 clear hM2 hB2 hb2 hsz2
 go_wp2
 go_loopw [5, 13] (fun out i wr => ∃ (k : Nat) (A' : Option Addr) (c' : Nat), k ≤ n ∧ i = .int .i64 k ∧ out = .slice A' k c' ∧ MkII w wr A' k c' (tab k fun k => turnL P sq n xs (unitRow n k)) ∧ Keeps w2 w3 wr (.slice A' k c')) (fun _ i _ => n - (intOf i).toNat)
 case atStart => exact ⟨0, _, _, by omega, rfl, rfl, by simpa [tab] using hM3, hKp⟩
 case round =>
  obtain ⟨k, A', c', hk, rfl, rfl, hM, hB4⟩ := hrel
  clear hM3 hKp
  by_cases hlt : k < n
  · obtain ⟨gu, ou, rfl, hxk, A1, c1, hcu, hru, hcc⟩ := (hU.keep hB4.2.1).at_ hlt
    have hrow := unitM_get n k hxk
    rw [hrow, unitRow_len] at hru hcu hcc
    have hcall := turning1_any g gx P A n c sq X cx xs A1 c1 (unitRow n k) wr hp hp2 hn (ha.below hM.b) hs (hx.below hM.b) hxs hcx hru (unitRow_nums hp n k) HP (kg.below hM.b kg.lt) (kx.below hM.b kx.lt)
    have HM := Lib.hid hM
    have HB4 := Lib.hid hB4
    clear hM hru hrow hB4
    go_wp2_with fail
    refine hcall.mono ?_
    rintro e w5 ⟨A5, c5, rfl, hM5⟩
    clear hcall
    go_wp2_with (at_builtin; refine wpList_appRowG w wr _ rfl _ _ rfl A' k c' _ A5 n c5 _ HM.out hM5 (by omega) rfl ?_ ?_; (go_simp); intro A6 c6 w6 hM6 hg6 hat6)
    go_roundw
    case rel => exact ⟨k + 1, A6, c6, by omega, by go_num, rfl, by rw [tab_succ]; exact hM6, HB4.out.step hM5.b hg6 hat6⟩
    case measure => simp [intOf]; omega
  · obtain rfl : k = n := by omega
    go_wp2_with fail
    refine (transpose_any P A' k c' (colsL P sq k xs) k _ h0 (by omega) (by omega) hM.rd (colsL_tab hp sq k xs)).mono ?_
    rintro e w5 ⟨A5, c5, rfl, hM5⟩
    go_wp2
    go_ret
    exact ⟨_, _, rfl, hM5.after hM.b⟩
set_option maxHeartbeats 1600000 in
set_option maxRecDepth 8000 in
theorem turning_any (P : Int) (A : Option Addr) (n c : Nat) (sq : List Int) (X : Option Addr) (cx : Nat) (xs : List Int) (w : World) (hp : 2 ≤ P) (hp2 : P ≤ 13) (hn : n ≤ 6) (h0 : 0 < n) (ha : Rd w A n (ints sq)) (hs : NumsL P sq) (hx : Rd w X (pw n) (ints xs)) (hxs : NumsL P xs) (hcx : pw n ≤ cx) (HP : isP P = true) :
    Calls Tryz.prog 127 #[.agg #[.int .i64 P, .slice A n c], .slice X (pw n) cx] w fun e w' => ∃ A' c', e = .returned (.slice A' n c') ∧ MkII w w' A' n c' (transL (colsL P sq n xs)) := by
 have hB0 : Below w.heap.size w (w.alloc (.cells #[.int .i64 P, .slice A n c] 26)) := zG.alloc (Nat.le_refl _) _
 have k0 : Blk (w.alloc (.cells #[.int .i64 P, .slice A n c] 26)) w.heap.size 26 #[.int .i64 P, .slice A n c] := Blk.new _ _ _
 have hB1 := hB0.alloc (by simp) (.cells #[.slice X (pw n) cx] 24)
 have k1 := k0.alloc (.cells #[.slice X (pw n) cx] 24)
 have kx : Blk ((w.alloc (.cells #[.int .i64 P, .slice A n c] 26)).alloc (.cells #[.slice X (pw n) cx] 24)) (w.heap.size + 1) 24 #[.slice X (pw n) cx] := Blk.newAt (by simp)
 have hcall := matrixBy_turn w.heap.size (w.heap.size + 1) P A n c sq X cx xs _ hp hp2 hn h0 (ha.below hB1) hs (hx.below hB1) hxs hcx HP k1 kx
 obtain ⟨q0, q1⟩ := k1.two
 go_enter Tryz.func127, Tryz.ntmps127
 go_wp2_with fail
 refine hcall.mono ?_
 rintro e w2 ⟨A2, c2, rfl, hM⟩
 go_wp2
 go_ret
 exact ⟨_, _, rfl, hM.after hB1⟩
set_option maxHeartbeats 1600000 in
set_option maxRecDepth 8000 in
theorem timesM_any (p : Int) (A : Option Addr) (n c : Nat) (M : List (List Int)) (B : Option Addr) (d : Nat) (N : List (List Int)) (w : World) (hp : 2 ≤ p) (hp2 : p ≤ 13) (h0 : 0 < n) (hn : n ≤ 65536) (ha : RdII w A n M) (hM : Tab p n M) (hb : RdII w B n N) (hN : Tab p n N) :
    Calls Tryz.prog 84 #[.int .i64 p, .slice A n c, .slice B n d] w fun e w' => ∃ A' c', e = .returned (.slice A' n c') ∧ MkII w w' A' n c' (timesM p M N) := by
 have HT := Lib.hid hM
 have HL := Lib.hid ha.len
 have HTT : Hid (Tab p n (transL N)) := Lib.hid (by have := transL_tab (show 0 < p by omega) hN; rwa [hb.len] at this)
 have hcall := transpose_any p B n d N n w h0 hn hn hb hN
 clear hM hN hb
 go_enter Tryz.func84, Tryz.ntmps84
 go_wp2_with fail
 refine hcall.mono ?_
 rintro e w1 ⟨T, cT, rfl, hT1⟩
 have hM0 : MkII w1 (w1.alloc (.cells #[] 24)) (some ⟨w1.heap.size, 0, none⟩) 0 0 [] := MkII.empty zG
 have HB1 := Lib.hid hT1.b
 have ha1 := ha.below hT1.b
 have hTr := hT1.rd
 clear hcall hT1 ha
 go_wp2
 go_loopw [8, 16] (fun out i wr => ∃ (k : Nat) (A' : Option Addr) (c' : Nat), k ≤ n ∧ i = .int .i64 k ∧ out = .slice A' k c' ∧ MkII w1 wr A' k c' (tab k fun i => applyL p (transL N) (M.getD i []))) (fun _ i _ => n - (intOf i).toNat)
 case atStart => exact ⟨0, _, _, by omega, rfl, rfl, by simpa [tab] using hM0⟩
 case round =>
  obtain ⟨k, A', c', hk, rfl, rfl, hM⟩ := hrel
  clear hM0
  by_cases hlt : k < n
  · obtain ⟨g, o, rfl, hxk, A1, c1, hcx, hr1, _⟩ := (ha1.below hM.b).at_ hlt
    obtain ⟨hl1, hn1⟩ := HT.out M[k] (List.getElem_mem hxk)
    rw [hl1] at hcx hr1
    have hap := apply_any p T n cT (transL N) A1 n c1 M[k] wr hp hp2 hn hn (hTr.below hM.b) HTT.out hr1 hn1
    have HV : Hid ((tab (k + 1) fun i => applyL p (transL N) (M.getD i [])) = (tab k fun i => applyL p (transL N) (M.getD i [])) ++ [applyL p (transL N) M[k]]) := Lib.hid (by rw [tab_succ, getD_of_lt [] hxk])
    have HM := Lib.hid hM
    clear hM hr1 hl1 hn1 hTr ha1
    go_wp2_with fail
    refine hap.mono ?_
    rintro e w5 ⟨A5, c5, rfl, hM5⟩
    clear hap
    go_wp2_with (at_builtin; refine wpList_appRow w1 wr _ rfl _ _ rfl A' k c' _ A5 n c5 _ HM.out hM5 (by omega) rfl ?_ ?_; (go_simp); intro A6 c6 w6 hM6)
    go_roundw
    case rel => exact ⟨k + 1, A6, c6, by omega, by go_num, rfl, by rw [HV.out]; exact hM6⟩
    case measure => simp [intOf]; omega
  · obtain rfl : k = n := by omega
    go_wp2
    go_ret
    exact ⟨_, _, rfl, by unfold timesM; rw [HL.out]; exact hM.after HB1.out⟩
theorem dotL_small {p : Int} (hp : 0 < p) (a b : List Int) : 0 ≤ dotL p a b ∧ dotL p a b < p := ⟨Int.emod_nonneg _ (by omega), Int.emod_lt_of_pos _ hp⟩
theorem timesM_tab {p : Int} {n : Nat} {M N : List (List Int)} (hp : 0 < p) (h0 : 0 < n) (hN : Tab p n N) (hNl : N.length = n) : Tab p n (timesM p M N) :=
 Tab.tab fun _ _ => ⟨by unfold applyL; rw [tab_len, transL_len hN (by omega)], NumsL.tab fun _ _ => dotL_small hp _ _⟩
/-- The matrix of a bivector. -/
def matL (P : Int) (sq : List Int) (n : Nat) (xs : List Int) : List (List Int) := transL (colsL P sq n xs)
theorem matL_tab {P : Int} (hp : 2 ≤ P) (sq : List Int) (n : Nat) (xs : List Int) : Tab P n (matL P sq n xs) := by
 have := transL_tab (show 0 < P by omega) (colsL_tab hp sq n xs)
 rwa [colsL_len] at this
theorem matL_len {P : Int} (hp : 2 ≤ P) (sq : List Int) {n : Nat} (h0 : 0 < n) (xs : List Int) : (matL P sq n xs).length = n := transL_len (colsL_tab hp sq n xs) (by rw [colsL_len]; exact h0)
end Go.Proofs.YtmkjdpnoloofjaaGreat
namespace Go.Proofs.YtmkjdpnoloofjaaGreat
section
variable {p : Int} {sq : List Int}
theorem bil_unit {a b : Nat} (_ha : a < sq.length) (hb : b < sq.length) : bil sq (unitRow sq.length a) (unitRow sq.length b) = if a = b then sq.getD b 0 else 0 := by
 unfold bil
 rw [sumTo_one b hb fun j hj hne => by rw [unitRow_getD (k := b) hj, if_neg fun e => hne e.symm, Int.mul_zero, Int.zero_mul], unitRow_getD hb, unitRow_getD hb, if_pos rfl]
 split <;> simp
end
section
variable {p : Int} {sq : List Int}
/-- The multivector with 1 at one place. -/
def Cl.at_ (hp : 0 < p) (m : Nat) : Cl p sq := Cl.of hp fun q => if q = m then 1 else 0
theorem partG_two {xs : List Int} (hl : xs.length ≤ 64) : onlyL (partG xs 2) 2 = true := by
 refine (only_iff (by rw [partG_len]; exact hl) 2).2 fun i hi hne => ?_
 rw [partG_len] at hi
 rw [partG_getD hi, if_neg hne]
end
/-- All squares 0. -/
abbrev zs (n : Nat) : List Int := List.replicate n 0
theorem zs_len (n : Nat) : (zs n).length = n := List.length_replicate
theorem zs_get (n i : Nat) : (zs n).getD i 0 = 0 := by
 rw [List.getD_eq_getElem?_getD, List.getElem?_replicate]; split <;> rfl
theorem comZ_apart (sq : List Int) {a b : Nat} (h : ∀ i, ¬ (bit b i = 1 ∧ bit a i = 1)) : ∀ k, comZ sq a b k = 1 := by
 intro k
 induction k with
 | zero => rfl
 | succ k ih => simp only [comZ]; rw [ih, if_neg (h k)]; rfl
theorem comZ_hit (n : Nat) {a b i : Nat} (h : bit b i = 1 ∧ bit a i = 1) : ∀ k, i < k → comZ (zs n) a b k = 0 := by
 intro k
 induction k with
 | zero => intro h; omega
 | succ k ih =>
  intro hk
  simp only [comZ]
  by_cases e : i = k
  · subst e; rw [if_pos h, zs_get, Int.mul_zero]
  · rw [ih (by omega), Int.zero_mul]
theorem and_zero_iff (a b : Nat) : (a &&& b = 0) ↔ ∀ i, ¬ (bit b i = 1 ∧ bit a i = 1) := by
 constructor
 · intro h i hi
   have := congrArg (fun x => x.testBit i) h
   simp only [Nat.testBit_and, Nat.zero_testBit, (bit_iff a i).1 hi.2, (bit_iff b i).1 hi.1] at this
   exact absurd this (by decide)
 · intro h
   refine Nat.eq_of_testBit_eq fun i => ?_
   rw [Nat.testBit_and, Nat.zero_testBit]
   cases ha : a.testBit i
   · rfl
   · cases hb : b.testBit i
     · rfl
     · exact absurd ⟨(bit_iff b i).2 hb, (bit_iff a i).2 ha⟩ (h i)
theorem facZ_apart {sq : List Int} {n a b : Nat} (hn : sq.length = n) (h : a &&& b = 0) : facZ sq a b = facZ (zs n) a b := by
 unfold facZ
 rw [hn, zs_len, comZ_apart sq ((and_zero_iff a b).1 h), comZ_apart (zs n) ((and_zero_iff a b).1 h)]
theorem facZ_hit {n a b : Nat} (ha : a < pw n) (h : ¬ a &&& b = 0) : facZ (zs n) a b = 0 := by
 unfold facZ
 rw [zs_len]
 have h1 : ¬ ∀ i, ¬ (bit b i = 1 ∧ bit a i = 1) := fun h2 => h ((and_zero_iff a b).2 h2)
 obtain ⟨i, hi⟩ := Classical.not_forall.1 h1
 have hi' := Classical.not_not.1 hi
 have hin : i < n := by
  rcases Nat.lt_or_ge i n with h | h
  · exact h
  · have := bit_high (b := a) (n := n) ha h
    rw [this] at hi'
    exact absurd hi'.2 (by decide)
 rw [comZ_hit n hi' n hin, Int.mul_zero]
section
variable {p : Int} {n : Nat}
/-- Outer products are products with all squares 0. -/
theorem wedge_mul {sq : List Int} (hn : sq.length = n) {xs ys : List Int} (hx : xs.length = pw n) (hy : ys.length = pw n) : wedgeL p sq xs ys = mulL p (zs n) xs ys := by
 refine list_ext_getD 0 (by rw [wedgeL_len, mulL_len]) fun m hm => ?_
 rw [wedgeL_len, hx] at hm
 unfold wedgeL mulL
 rw [prodL_getD p sq _ xs ys n m hx hy hm, prodL_getD p (zs n) _ xs ys n m hx hy hm]
 refine sumTo_mod p fun a ha => ?_
 unfold term
 by_cases h : a &&& (a ^^^ m) = 0
 · have hb : (fun a b : Nat => a &&& b == 0) a (a ^^^ m) = true := by show (a &&& (a ^^^ m) == 0) = true; rw [h]; rfl
   rw [if_pos hb, if_pos rfl, Int.mul_emod, fac_facZ, facZ_apart hn h, ← fac_facZ, ← Int.mul_emod]
 · rw [if_neg (by simpa using h), if_pos rfl, Int.mul_emod, fac_facZ, facZ_hit ha h, Int.zero_emod, Int.mul_zero, Int.zero_emod]
theorem wedge_cl' {sq : List Int} (hn : sq.length = n) (x y : Cl p (zs n)) : wedgeL p sq x.l y.l = (x * y).l := by
 rw [wedge_mul hn (x.len.trans (by rw [zs_len])) (y.len.trans (by rw [zs_len])), Cl.mul_l]
theorem bil_zs (u v : List Int) : bil (zs n) u v = 0 := by
 unfold bil
 exact sumTo_zero fun i _ => by rw [zs_get, Int.mul_zero]
theorem Cl.zz (hp : 0 < p) (hP : isP p = true) (v : List Int) : (Cl.vec hp v : Cl p (zs n)) * Cl.vec hp v = Cl.zero hp := by
 rw [Cl.vec_sq hp hP, bil_zs, Cl.zero_sm]
theorem Cl.za (hp : 0 < p) (u v : List Int) : (Cl.vec hp u : Cl p (zs n)) * Cl.vec hp v = (-1 : Int) * (Cl.vec hp v * Cl.vec hp u) := by
 have h := Cl.vec_anti hp u v (sq := zs n)
 rw [bil_zs, Int.mul_zero, Cl.zero_sm] at h
 have e := Cl.add_back ((Cl.vec hp u : Cl p (zs n)) * Cl.vec hp v) (Cl.vec hp v * Cl.vec hp u) 1
 rw [Cl.one_sm] at e
 rw [← e, h, Cl.add_comm, Cl.add_zero]
/-- A vector of the list times the product of the list is 0. -/
theorem Cl.in_prod (hp : 0 < p) (hP : isP p = true) : ∀ (L : List (List Int)) (v : List Int), v ∈ L → (Cl.vec hp v : Cl p (zs n)) * Cl.prod hp L = Cl.zero hp
 | [], v, h => by cases h
 | u :: L, v, h => by
  rw [Cl.prod_cons]
  rcases List.mem_cons.1 h with rfl | h
  · rw [← Cl.mul_assoc, Cl.zz hp hP, Cl.zero_mul]
  · rw [← Cl.mul_assoc, Cl.za, Cl.sm_mul, Cl.mul_assoc, Cl.in_prod hp hP L v h, Cl.mul_zero, ← Cl.zero_sm (Cl.one hp), Cl.sm_sm, Int.mul_zero]
theorem Cl.vec_sp (hp : 0 < p) {sq : List Int} {B : List (List Int)} {v : List Int} {c : Nat → Int} (h : ∀ q, q < sq.length → v.getD q 0 % p = (sumTo B.length fun i => c i * ent B i q) % p) :
    (Cl.vec hp v : Cl p sq) = Cl.sum hp B.length fun i => c i * Cl.vec hp (B.getD i []) := Cl.same fun m hm => by
 rw [Cl.vec_co hp v hm, Cl.sum_co hp _ hm]
 have e2 : (sumTo B.length fun i => (c i * Cl.vec hp (B.getD i []) : Cl p sq).co m) % p = (sumTo B.length fun i => c i * sumTo sq.length fun q => if m = 2 ^ q then (B.getD i []).getD q 0 else 0) % p :=
  sumTo_mod p fun i _ => by rw [Cl.sm_co _ _ hm, Int.mul_emod, Cl.vec_co hp _ hm, ← Int.mul_emod]
 rw [e2]
 rcases Classical.em (∃ q, q < sq.length ∧ m = 2 ^ q) with ⟨q, hq, rfl⟩ | hno
 · rw [sumTo_one q hq fun j _ hne => if_neg fun e => hne (pow_inj e).symm, if_pos rfl, h q hq]
   refine sumTo_mod p fun i _ => ?_
   rw [sumTo_one q hq fun j _ hne => if_neg fun e => hne (pow_inj e).symm, if_pos rfl]; rfl
 · rw [sumTo_zero fun q hq => if_neg fun e => hno ⟨q, hq, e⟩, sumTo_zero fun i _ => by rw [sumTo_zero fun q hq => if_neg fun e => hno ⟨q, hq, e⟩, Int.mul_zero]]
theorem Cl.sum_mul (hp : 0 < p) {sq : List Int} (y : Cl p sq) (f : Nat → Cl p sq) : ∀ k, Cl.sum hp k f * y = Cl.sum hp k fun i => f i * y := by
 intro k
 induction k with
 | zero => exact Cl.zero_mul hp y
 | succ k ih => show (Cl.sum hp k f + f k) * y = _; rw [Cl.add_mul, ih]; rfl
theorem Cl.sum_zero (hp : 0 < p) {sq : List Int} {f : Nat → Cl p sq} : ∀ k, (∀ i, i < k → f i = Cl.zero hp) → Cl.sum hp k f = Cl.zero hp
 | 0, _ => rfl
 | k + 1, h => by
  show Cl.sum hp k f + f k = _
  rw [Cl.sum_zero hp k fun i hi => h i (by omega), h k (by omega), Cl.add_zero]
/-- A vector of the span times the product is 0. -/
theorem Cl.span_prod (hp : 0 < p) (hP : isP p = true) {B : List (List Int)} {v : List Int} (h : Sp p n B fun q => v.getD q 0) : (Cl.vec hp v : Cl p (zs n)) * Cl.prod hp B = Cl.zero hp := by
 obtain ⟨c, hc⟩ := h
 rw [Cl.vec_sp hp (B := B) (c := c) (fun q hq => hc q (by rw [zs_len] at hq; exact hq)), Cl.sum_mul]
 refine Cl.sum_zero hp _ fun i hi => ?_
 rw [Cl.sm_mul, Cl.in_prod hp hP B _ (getD_mem [] hi), ← Cl.zero_sm (Cl.one hp), Cl.sm_sm, Int.mul_zero]
/-- A vector times a multivector, at a place. -/
theorem Cl.vec_mul_co (hp : 0 < p) {sq : List Int} (v : List Int) (y : Cl p sq) {m : Nat} (hm : m < pw sq.length) : (Cl.vec hp v * y : Cl p sq).co m % p = (sumTo sq.length fun i => v.getD i 0 * y.co (2 ^ i ^^^ m) * facZ sq (2 ^ i) (2 ^ i ^^^ m)) % p := by
 rw [Cl.mul_co _ _ hm, mulZ_cg p sq (fun a ha => Cl.vec_co hp v ha) (fun a ha => rfl) hm]
 unfold mulZ
 rw [sumTo_congr (g := fun a => sumTo sq.length fun i => if a = 2 ^ i then v.getD i 0 * y.co (2 ^ i ^^^ m) * facZ sq (2 ^ i) (2 ^ i ^^^ m) else 0) fun a ha => ?_, sumTo_comm]
 · congr 1
   refine sumTo_congr fun i hi => ?_
   rw [sumTo_one (2 ^ i) (two_lt hi) fun a _ hne => if_neg hne, if_pos rfl]
 · rw [← sumTo_mul_right, ← sumTo_mul_right]
   refine sumTo_congr fun i _ => ?_
   by_cases h : a = 2 ^ i
   · rw [if_pos h, if_pos h, h]
   · rw [if_neg h, if_neg h, Int.zero_mul, Int.zero_mul]
theorem wedges_prod {sq : List Int} (hn : sq.length = n) (hp : 0 < p) (h2 : 2 ≤ p) : ∀ (k : Nat) (L : List (List Int)), L.length = k → (∀ v ∈ L, NumsL p v) → wedgesL p sq n L = (Cl.prod hp L : Cl p (zs n)).l := by
 intro k
 induction k with
 | zero =>
  intro L h _
  rw [List.eq_nil_of_length_eq_zero h]
  show bladeL n 0 = (Cl.one hp : Cl p (zs n)).l
  rw [Cl.one_l h2, zs_len]
 | succ k ih =>
  intro L h hN
  have hne : L ≠ [] := fun e => by rw [e] at h; cases h
  rw [← List.dropLast_concat_getLast hne] at hN ⊢
  rw [wedgesL_snoc, Cl.prod_snoc, ih L.dropLast (by rw [List.length_dropLast]; omega) fun v hv => hN v (List.mem_append_left _ hv)]
  have hv := hN (L.getLast hne) (by simp)
  have e : vecTo n (L.getLast hne) n = (Cl.vec hp (L.getLast hne) : Cl p (zs n)).l := by rw [Cl.vec_l hp hv, zs_len]
  rw [e, wedge_cl' hn]
end
section
variable {p : Int} {n : Nat}
theorem Cl.zero_addz (x : Cl p (zs n)) (hp : 0 < p) : Cl.zero hp + x = x := by rw [Cl.add_comm, Cl.add_zero]
theorem Cl.sm_zero (hp : 0 < p) {sq : List Int} (k : Int) : k * (Cl.zero hp : Cl p sq) = Cl.zero hp := by
 rw [← Cl.zero_sm (Cl.one hp), Cl.sm_sm, Int.mul_zero]
theorem Cl.prod_at (hp : 0 < p) (h2 : 2 ≤ p) {B : List (List Int)} (hR : Red n B) (hT : Tab p n B) : (Cl.prod hp B : Cl p (zs n)).co (maskTo B B.length) = 1 := by
 unfold Cl.co
 rw [← wedges_prod (sq := zs n) (zs_len n) hp h2 B.length B rfl fun v hv => (hT v hv).2]
 have := wedges_at (P := p) h2 (zs n) hR B.length (Nat.le_refl _) _ (maskTo_lt hR _ (Nat.le_refl _)) (fun i hi => maskTo_bits B B.length (Nat.le_refl _) i hi)
 rwa [List.take_length, if_pos rfl] at this
theorem Cl.squeeze (hp : 0 < p) (hP : isP p = true) (v : List Int) : ∀ L : List (List Int), (Cl.vec hp v : Cl p (zs n)) * Cl.prod hp L * Cl.vec hp v = Cl.zero hp
 | [] => by
  show (Cl.vec hp v : Cl p (zs n)) * Cl.one hp * Cl.vec hp v = _
  rw [Cl.mul_one, Cl.zz hp hP]
 | u :: L => by
  rw [Cl.prod_cons, ← Cl.mul_assoc, Cl.za, Cl.sm_mul, Cl.sm_mul, Cl.mul_assoc (Cl.vec hp u), Cl.mul_assoc (Cl.vec hp u), Cl.squeeze hp hP v L, Cl.mul_zero, Cl.sm_zero]
theorem Cl.prod_in (hp : 0 < p) (hP : isP p = true) : ∀ (L : List (List Int)) (v : List Int), v ∈ L → (Cl.prod hp L : Cl p (zs n)) * Cl.vec hp v = Cl.zero hp
 | [], v, h => by cases h
 | u :: L, v, h => by
  rw [Cl.prod_cons]
  rcases List.mem_cons.1 h with rfl | h
  · exact Cl.squeeze hp hP v L
  · rw [Cl.mul_assoc, Cl.prod_in hp hP L v h, Cl.mul_zero]
theorem Cl.prod_set (hp : 0 < p) {sq : List Int} (L : List (List Int)) {i : Nat} (hi : i < L.length) (v : List Int) : (Cl.prod hp (L.set i v) : Cl p sq) = Cl.prod hp (L.take i) * (Cl.vec hp v * Cl.prod hp (L.drop (i + 1))) := by
 rw [List.set_eq_take_append_cons_drop, if_pos hi, Cl.prod_append, Cl.prod_cons]
theorem set_self (L : List (List Int)) {i : Nat} (hi : i < L.length) : L.set i (L.getD i []) = L := by
 refine list_ext_getD [] (by rw [List.length_set]) fun j _ => ?_
 rw [getD_set]
 by_cases h : i = j
 · subst h; rw [if_pos ⟨rfl, hi⟩]
 · rw [if_neg fun e => h e.1]
theorem Cl.prod_split (hp : 0 < p) {sq : List Int} (L : List (List Int)) {i : Nat} (hi : i < L.length) : (Cl.prod hp L : Cl p sq) = Cl.prod hp (L.take i) * (Cl.vec hp (L.getD i []) * Cl.prod hp (L.drop (i + 1))) := by
 rw [← Cl.prod_set hp L hi, set_self L hi]
theorem Cl.prod_rep' (hp : 0 < p) (hP : isP p = true) (L : List (List Int)) {i j : Nat} (hij : i < j) (hj : j < L.length) (h : L.getD i [] = L.getD j []) : (Cl.prod hp L : Cl p (zs n)) = Cl.zero hp := by
 have hm : L.getD j [] ∈ L.take j := by
  rw [← h, ← take_getD [] L hij]
  exact getD_mem [] (by rw [List.length_take]; omega)
 rw [Cl.prod_split hp L hj, ← Cl.mul_assoc, Cl.prod_in hp hP _ _ hm, Cl.zero_mul]
theorem Cl.prod_rep (hp : 0 < p) (hP : isP p = true) (L : List (List Int)) {i j : Nat} (hij : i ≠ j) (hi : i < L.length) (hj : j < L.length) (h : L.getD i [] = L.getD j []) : (Cl.prod hp L : Cl p (zs n)) = Cl.zero hp := by
 rcases Nat.lt_or_gt_of_ne hij with h1 | h1
 · exact Cl.prod_rep' hp hP L h1 hj h
 · exact Cl.prod_rep' hp hP L h1 hi h.symm
theorem Cl.set_plus (hp : 0 < p) {sq : List Int} (L : List (List Int)) {j : Nat} (hj : j < L.length) {a : List Int} (b : List Int) (ha : a.length = sq.length) (k : Int) :
    (Cl.prod hp (L.set j (plusL p a b k)) : Cl p sq) = Cl.prod hp (L.set j a) + k * Cl.prod hp (L.set j b) := by
 rw [Cl.prod_set hp L hj, Cl.prod_set hp L hj, Cl.prod_set hp L hj, Cl.vec_plus hp ha, Cl.add_mul, Cl.mul_add, Cl.sm_mul, Cl.mul_sm]
theorem Cl.set_scale (hp : 0 < p) {sq : List Int} (L : List (List Int)) {j : Nat} (hj : j < L.length) {a : List Int} (ha : a.length = sq.length) (k : Int) :
    (Cl.prod hp (L.set j (scaleL p a k)) : Cl p sq) = k * Cl.prod hp (L.set j a) := by
 rw [Cl.prod_set hp L hj, Cl.prod_set hp L hj, Cl.vec_scale hp ha, Cl.sm_mul, Cl.mul_sm]
/-- A multiple of another row. -/
theorem Cl.prod_plus (hp : 0 < p) (hP : isP p = true) {L : List (List Int)} (hT : Tab p n L) {j d : Nat} (hj : j < L.length) (hd : d < L.length) (hjd : j ≠ d) (k : Int) :
    (Cl.prod hp (L.set j (plusL p (L.getD j []) (L.getD d []) k)) : Cl p (zs n)) = Cl.prod hp L := by
 rw [Cl.set_plus hp L hj _ ((hT.row hj).1.trans (zs_len n).symm), set_self L hj, Cl.prod_rep hp hP (L.set j (L.getD d [])) hjd (by rw [List.length_set]; exact hj) (by rw [List.length_set]; exact hd) (by
  rw [getD_set, if_pos ⟨rfl, hj⟩, getD_set, if_neg fun e => hjd e.1]), Cl.sm_zero, Cl.add_zero]
/-- Two rows exchanged. -/
theorem Cl.prod_swap (hp : 0 < p) (hP : isP p = true) {L : List (List Int)} (hT : Tab p n L) {i j : Nat} (hi : i < L.length) (hj : j < L.length) (hij : i ≠ j) :
    (Cl.prod hp (swapL L i j) : Cl p (zs n)) = (-1 : Int) * Cl.prod hp L := by
 obtain ⟨a, ha⟩ : ∃ a, a = L.getD i [] := ⟨_, rfl⟩
 obtain ⟨b, hb⟩ : ∃ b, b = L.getD j [] := ⟨_, rfl⟩
 have la : a.length = (zs n).length := by rw [ha, (hT.row hi).1, zs_len]
 obtain ⟨s, hs⟩ : ∃ s, s = plusL p a b 1 := ⟨_, rfl⟩
 have rep : ∀ v : List Int, (Cl.prod hp ((L.set i v).set j v) : Cl p (zs n)) = Cl.zero hp := fun v =>
  Cl.prod_rep hp hP _ hij (by rw [List.length_set, List.length_set]; exact hi) (by rw [List.length_set, List.length_set]; exact hj) (by
   rw [getD_set, if_neg fun e => hij e.1.symm, getD_set, if_pos ⟨rfl, hi⟩, getD_set, if_pos ⟨rfl, by rw [List.length_set]; exact hj⟩])
 have comm : ∀ u v : List Int, (L.set i u).set j v = (L.set j v).set i u := fun u v => List.set_comm u v hij
 have e1 := rep s
 have l1 : j < (L.set i s).length := by rw [List.length_set]; exact hj
 have l2 : ∀ v, i < (L.set j v).length := fun v => by rw [List.length_set]; exact hi
 have e2 : (Cl.prod hp ((L.set i s).set j s) : Cl p (zs n)) = Cl.prod hp ((L.set i s).set j a) + (1 : Int) * Cl.prod hp ((L.set i s).set j b) := by
  have h9 := Cl.set_plus hp (L.set i s) l1 b la 1
  rw [← hs] at h9
  exact h9
 have e3 : ∀ v, (Cl.prod hp ((L.set i s).set j v) : Cl p (zs n)) = Cl.prod hp ((L.set i a).set j v) + (1 : Int) * Cl.prod hp ((L.set i b).set j v) := fun v => by
  rw [comm s v, hs, Cl.set_plus hp _ (l2 v) b la 1, ← comm a v, ← comm b v]
 rw [e2, e3 a, e3 b, rep a, rep b, Cl.zero_addz, Cl.one_sm, Cl.one_sm, Cl.one_sm, Cl.add_zero] at e1
 have e4 : (L.set i a).set j b = L := by rw [ha, set_self L hi, hb, set_self L hj]
 have e5 : swapL L i j = (L.set i b).set j a := by unfold swapL; rw [← ha, ← hb]
 rw [e4] at e1
 rw [e5]
 have h := Cl.add_back (Cl.prod hp ((L.set i b).set j a) : Cl p (zs n)) (Cl.prod hp L) 1
 rw [Cl.one_sm, e1, Cl.zero_addz] at h
 exact h.symm
theorem Cl.prod_clear (hp : 0 < p) (hP : isP p = true) {m : List (List Int)} (hT : Tab p n m) {d k : Nat} (hd : d < m.length) : ∀ j, j ≤ m.length → (Cl.prod hp (clearTo p m d k j) : Cl p (zs n)) = Cl.prod hp m := by
 intro j
 induction j with
 | zero => intro _; rw [clearTo_zero]
 | succ j ih =>
  intro hj
  by_cases h : j = d
  · subst h; rw [clearTo_skip]; exact ih (by omega)
  · rw [clearTo_succ p m d k j (by omega) h]
    have e1 : m.getD j [] = (clearTo p m d k j).getD j [] := by rw [clearTo_getD (by omega), if_neg (by omega)]
    have e2 : m.getD d [] = (clearTo p m d k j).getD d [] := by rw [clearTo_getD hd, if_neg (by omega)]
    rw [e1, e2, Cl.prod_plus hp hP (clearTo_tab hp hT d k j) (by rw [clearTo_len]; omega) (by rw [clearTo_len]; exact hd) h]
    exact ih (by omega)
/-- The sign of an exchange. -/
def swSg (i j : Nat) : Int := if i = j then 1 else -1
theorem swapL_self (L : List (List Int)) {i : Nat} (hi : i < L.length) : swapL L i i = L := by
 unfold swapL; rw [set_self L hi, set_self L hi]
theorem Cl.prod_swap' (hp : 0 < p) (hP : isP p = true) {L : List (List Int)} (hT : Tab p n L) {i j : Nat} (hi : i < L.length) (hj : j < L.length) :
    (Cl.prod hp (swapL L i j) : Cl p (zs n)) = swSg i j * Cl.prod hp L := by
 unfold swSg
 by_cases h : i = j
 · subst h; rw [if_pos rfl, swapL_self L hi, Cl.one_sm]
 · rw [if_neg h, Cl.prod_swap hp hP hT hi hj h]
theorem Cl.prod_scaled (hp : 0 < p) (hP : isP p = true) {m : List (List Int)} (hT : Tab p n m) {k d : Nat} (hd : d < m.length) (hv : pivOf m k d < m.length) :
    (Cl.prod hp (scaledAt p m k d) : Cl p (zs n)) = (invF p (ent m (pivOf m k d) k) * swSg d (pivOf m k d)) * Cl.prod hp m := by
 unfold scaledAt
 have hl : d < (swapL m d (pivOf m k d)).length := by rw [swapL_len]; exact hd
 rw [Cl.set_scale hp _ hl ((hT.row hv).1.trans (zs_len n).symm)]
 have e : (swapL m d (pivOf m k d)).set d (m.getD (pivOf m k d) []) = swapL m d (pivOf m k d) := by
  have : (swapL m d (pivOf m k d)).getD d [] = m.getD (pivOf m k d) [] := by
   unfold swapL
   rw [getD_set]
   by_cases h : pivOf m k d = d
   · rw [if_pos ⟨h, by rw [List.length_set]; exact hv⟩, h]
   · rw [if_neg fun e => h e.1, getD_set, if_pos ⟨rfl, hd⟩]
  rw [← this, set_self _ hl]
 rw [e, Cl.prod_swap' hp hP hT hd hv, Cl.sm_sm]
theorem unit_inv (hP : isP p = true) {a : Int} (h0 : 0 ≤ a ∧ a < p) (ha : a ≠ 0) : invF p a % p ≠ 0 := fun h => by
 have h1 := inv_one hP h0 ha
 have h3 := (isP_ge hP).1
 rw [Int.mul_emod, h, Int.mul_zero, Int.zero_emod, Int.emod_eq_of_lt (by omega) (by omega)] at h1
 exact absurd h1 (by decide)
theorem swSg_ne (hP : isP p = true) (i j : Nat) : swSg i j % p ≠ 0 := by
 have h3 := isP_ge hP
 unfold swSg
 split
 · rw [Int.emod_eq_of_lt (by omega) (by omega)]; decide
 · intro h
   have h1 : (-1 : Int) % p = p - 1 := by
    rw [← Int.add_emod_right (a := -1), show (-1 : Int) + p = p - 1 by omega, Int.emod_eq_of_lt (by omega) (by omega)]
   omega
theorem Cl.prod_step (hp : 0 < p) (hP : isP p = true) {s : List (List Int) × Nat} {k : Nat} (hT : Tab p n s.1) (hd : s.2 ≤ s.1.length) :
    ∃ c : Int, c % p ≠ 0 ∧ (Cl.prod hp (stepB p k s).1 : Cl p (zs n)) = c * Cl.prod hp s.1 := by
 have h3 := isP_ge hP
 unfold stepB
 by_cases h : pivOf s.1 k s.2 = s.1.length
 · rw [if_pos h]
   exact ⟨1, by rw [Int.emod_eq_of_lt (by omega) (by omega)]; decide, (Cl.one_sm _).symm⟩
 · rw [if_neg h]
   obtain ⟨hb1, hb2⟩ := pivOf_bound s.1 k s.2 hd
   have hx : ent s.1 (pivOf s.1 k s.2) k ≠ 0 := piv_at s.1 k _ _ (by unfold pivOf at h hb2; omega)
   have hl : (scaledAt p s.1 k s.2).length = s.1.length := scaledAt_len _ _ _ _
   have hst := scaledAt_tab (p := p) (k := k) hp hT (show s.2 < s.1.length by omega) (by omega)
   refine ⟨invF p (ent s.1 (pivOf s.1 k s.2) k) * swSg s.2 (pivOf s.1 k s.2), ?_, ?_⟩
   rotate_left
   · show (Cl.prod hp (clearTo p (scaledAt p s.1 k s.2) s.2 k s.1.length) : Cl p (zs n)) = _
     rw [Cl.prod_clear hp hP hst (by rw [hl]; omega) _ (by rw [hl]; exact Nat.le_refl _), Cl.prod_scaled hp hP hT (by omega) (by omega)]
   · exact mul_ne hP (unit_inv hP (hT.ent hp _ _) hx) (swSg_ne hP _ _)
theorem Cl.prod_basisTo (hp : 0 < p) (hP : isP p = true) {m : List (List Int)} (hT : Tab p n m) : ∀ k, ∃ c : Int, c % p ≠ 0 ∧ (Cl.prod hp (basisTo p m k).1 : Cl p (zs n)) = c * Cl.prod hp m := by
 have h3 := isP_ge hP
 intro k
 induction k with
 | zero => exact ⟨1, by rw [Int.emod_eq_of_lt (by omega) (by omega)]; decide, (Cl.one_sm _).symm⟩
 | succ k ih =>
  obtain ⟨c, hc, e⟩ := ih
  obtain ⟨t1, t2, t3⟩ := basisTo_inv hp m hT k
  obtain ⟨d, hd, e2⟩ := Cl.prod_step hp hP (s := basisTo p m k) (k := k) t1 (by omega)
  refine ⟨d * c, mul_ne hP hd hc, ?_⟩
  show (Cl.prod hp (stepB p k (basisTo p m k)).1 : Cl p (zs n)) = _
  rw [e2, e, Cl.sm_sm]
theorem Cl.sm_inv {sq : List Int} (hP : isP p = true) {c : Int} (hc : c % p ≠ 0) {x y : Cl p sq} (h : x = c * y) : y = invF p (c % p) * x := by
 rw [h, Cl.sm_sm]
 have h1 := inv_mod hP hc
 rw [Int.mul_comm] at h1
 rw [Cl.sm_cg (k := invF p (c % p) * c) (j := 1) (by rw [h1, Int.emod_eq_of_lt] <;> have := isP_ge hP <;> omega), Cl.one_sm]
theorem Cl.vec_none (hp : 0 < p) {sq : List Int} {v : List Int} (h : ∀ q, q < sq.length → v.getD q 0 % p = 0) : (Cl.vec hp v : Cl p sq) = Cl.zero hp := Cl.same fun m hm => by
 rw [Cl.vec_co hp v hm, Cl.zero_co hp hm]
 refine (sumTo_mod p (g := fun _ => 0) fun i hi => ?_).trans (by rw [sumTo_zero fun _ _ => rfl]; rfl)
 split
 · rw [h i hi]; rfl
 · rfl
/-- The product of vectors is 0 or a multiple of that of their reduced basis, which has as many. -/
theorem Cl.prod_basis (hp : 0 < p) (hP : isP p = true) {m : List (List Int)} (hT : Tab p n m) :
    (Cl.prod hp m : Cl p (zs n)) = Cl.zero hp ∨ ((basisL p m).length = m.length ∧ ∃ c : Int, c % p ≠ 0 ∧ (Cl.prod hp m : Cl p (zs n)) = c * Cl.prod hp (basisL p m)) := by
 have h3 := isP_ge hP
 by_cases h0 : 0 < m.length
 · have hl := row0_len hT h0
   obtain ⟨c, hc, e⟩ := Cl.prod_basisTo hp hP hT n
   obtain ⟨t1, t2, t3⟩ := basisTo_inv hp m hT n
   obtain ⟨ec, hE⟩ := basisTo_ech hP m hT n (Nat.le_refl _)
   have ei := Cl.sm_inv hP hc e
   have hinv : invF p (c % p) % p ≠ 0 := unit_inv hP ⟨Int.emod_nonneg _ (by omega), Int.emod_lt_of_pos _ (by omega)⟩ hc
   by_cases hfull : (basisTo p m n).2 = m.length
   · refine Or.inr ⟨?_, _, hinv, ?_⟩
     · rw [(basisL_len hp m hT).1, hl, hfull]
     · have e4 : basisL p m = (basisTo p m n).1 := by unfold basisL; rw [hl, hfull, ← t2, List.take_length]
       rw [e4]; exact ei
   · refine Or.inl ?_
     have hd : (basisTo p m n).2 < (basisTo p m n).1.length := by omega
     rw [ei, Cl.prod_split hp _ hd, Cl.vec_none hp (v := (basisTo p m n).1.getD (basisTo p m n).2 []) (fun q hq => ?_), Cl.zero_mul, Cl.mul_zero, Cl.sm_zero]
     rw [zs_len] at hq
     have := hE.rest _ (Nat.le_refl _) hd q hq
     unfold ent at this
     rw [this]; rfl
 · obtain rfl : m = [] := List.eq_nil_of_length_eq_zero (by omega)
   rw [basisL_nil]
   exact Or.inr ⟨rfl, 1, by rw [Int.emod_eq_of_lt (by omega) (by omega)]; decide, (Cl.one_sm _).symm⟩
end
section
variable {p : Int} {n : Nat}
theorem vec_sg : ∀ b : Nat, b < 64 → ∀ i : Nat, i < 6 → (swn b (2 ^ i) 6 + pcn b 6 + swn (2 ^ i) b 6) % 2 = (if b.testBit i then 1 else 0) := by decide +kernel
theorem facZ_vec {sq : List Int} (hn : sq.length ≤ 6) {b i : Nat} (hb : b < pw sq.length) (hi : i < sq.length) : sgI b * facZ sq b (2 ^ i) = (if b.testBit i then -1 else 1) * facZ sq (2 ^ i) b := by
 have h64 : ∀ {x}, x < pw sq.length → x < 64 := fun h => Nat.lt_of_lt_of_le h (pw_le (k := 6) hn)
 unfold facZ
 rw [comZ_symm sq b (2 ^ i), ← Int.mul_assoc, ← Int.mul_assoc]
 congr 1
 have e : (if b.testBit i then (-1 : Int) else 1) = sg (if b.testBit i then 1 else 0) := by cases b.testBit i <;> rfl
 rw [e, sgI_sg, ← sg_add, ← sg_add]
 apply sg_congr
 rw [swaps_six hn hb (two_lt hi), swaps_six hn (two_lt hi) hb, pc_pcn 6 b (h64 hb)]
 have h := vec_sg b (h64 hb) i (by omega)
 obtain ⟨t, ht⟩ : ∃ t : Nat, t = if b.testBit i then 1 else 0 := ⟨_, rfl⟩
 rw [← ht] at h ⊢
 omega
end
section
variable {p : Int} {sq : List Int}
theorem Cl.mul_vec_co (hp : 0 < p) (v : List Int) (y : Cl p sq) {m : Nat} (hm : m < pw sq.length) : (y * Cl.vec hp v : Cl p sq).co m % p = (sumTo sq.length fun i => v.getD i 0 * y.co (2 ^ i ^^^ m) * facZ sq (2 ^ i ^^^ m) (2 ^ i)) % p := by
 rw [Cl.mul_co _ _ hm, mulZ_cg p sq (fun a ha => rfl) (fun a ha => Cl.vec_co hp v ha) hm]
 unfold mulZ
 rw [sumTo_xor _ hm, sumTo_congr (g := fun a => sumTo sq.length fun i => if a = 2 ^ i then v.getD i 0 * y.co (2 ^ i ^^^ m) * facZ sq (2 ^ i ^^^ m) (2 ^ i) else 0) fun a ha => ?_, sumTo_comm]
 · congr 1
   refine sumTo_congr fun i hi => ?_
   rw [sumTo_one (2 ^ i) (two_lt hi) fun a _ hne => if_neg hne, if_pos rfl]
 · rw [xor_self_right, Int.mul_comm (y.co _), ← sumTo_mul_right, ← sumTo_mul_right]
   refine sumTo_congr fun i _ => ?_
   by_cases h : a = 2 ^ i
   · rw [if_pos h, if_pos h, h]
   · rw [if_neg h, if_neg h, Int.zero_mul, Int.zero_mul]
/-- The part of a vector times a multivector that comes from one of the vector's places. -/
def vmT (sq v : List Int) (y : Nat → Int) (m i : Nat) : Int := v.getD i 0 * y (2 ^ i ^^^ m) * facZ sq (2 ^ i) (2 ^ i ^^^ m)
theorem testBit_own (i m : Nat) : (2 ^ i ^^^ m).testBit i = !m.testBit i := by
 rw [Nat.testBit_xor, Nat.testBit_two_pow_self]; cases m.testBit i <;> rfl
theorem Cl.invo_vec_co (hp : 0 < p) (h6 : sq.length ≤ 6) (v : List Int) (y : Cl p sq) {m : Nat} (hm : m < pw sq.length) : (y.invo * Cl.vec hp v : Cl p sq).co m % p = (sumTo sq.length fun i => (if m.testBit i then 1 else -1) * vmT sq v y.co m i) % p := by
 rw [Cl.mul_vec_co hp v _ hm]
 refine sumTo_mod p fun i hi => ?_
 have hb : 2 ^ i ^^^ m < pw sq.length := xor_lt (two_lt hi) hm
 obtain ⟨b, hbb⟩ : ∃ b, b = 2 ^ i ^^^ m := ⟨_, rfl⟩
 have ht := testBit_own i m
 unfold vmT
 rw [← hbb] at hb ht ⊢
 have h1 : (v.getD i 0 * y.invo.co b) % p = (v.getD i 0 * (sgI b * y.co b)) % p := cg_mul rfl (Cl.invo_co y hb)
 refine (cg_mul h1 rfl).trans ?_
 have h2 := facZ_vec h6 hb hi
 congr 1
 have e : v.getD i 0 * (sgI b * y.co b) * facZ sq b (2 ^ i) = v.getD i 0 * y.co b * (sgI b * facZ sq b (2 ^ i)) := by grind
 rw [e, h2, ht]
 cases m.testBit i <;> simp only [Bool.not_true, Bool.not_false, if_true, if_false, Bool.false_eq_true] <;> grind
end
/-- The columns of the matrix of a reflection, and the matrix. -/
def rcolsL (P : Int) (sq : List Int) (n : Nat) (u : List Int) : List (List Int) := tab n fun k => rflL P sq u (unitRow n k)
def rmatL (P : Int) (sq : List Int) (n : Nat) (u : List Int) : List (List Int) := transL (rcolsL P sq n u)
theorem rcolsL_tab {P : Int} (hp : 2 ≤ P) (sq : List Int) (n : Nat) (u : List Int) : Tab P n (rcolsL P sq n u) := Tab.tab fun _ _ => ⟨by rw [rflL_len, unitRow_len], rflL_nums (by omega) _ _ _⟩
theorem rcolsL_len (P : Int) (sq : List Int) (n : Nat) (u : List Int) : (rcolsL P sq n u).length = n := tab_len _ _
theorem rmatL_tab {P : Int} (hp : 2 ≤ P) (sq : List Int) (n : Nat) (u : List Int) : Tab P n (rmatL P sq n u) := by
 have := transL_tab (p := P) (by omega) (rcolsL_tab hp sq n u)
 rwa [rcolsL_len] at this
theorem rmatL_len {P : Int} (hp : 2 ≤ P) (sq : List Int) {n : Nat} (h0 : 0 < n) (u : List Int) : (rmatL P sq n u).length = n := transL_len (rcolsL_tab hp sq n u) (by rw [rcolsL_len]; exact h0)
/-- Row r less the multiple of row i that makes its place i 0. -/
def dRow (p : Int) (m : List (List Int)) (i r : Nat) : List Int := plusL p (m.getD r []) (m.getD i []) (-(ent m r i) * invF p (ent m i i))
/-- The rows behind row i and ahead of row j, cleared at place i. -/
def dClr (p : Int) (m : List (List Int)) (i j : Nat) : List (List Int) := tab m.length fun r => if i < r ∧ r < j then dRow p m i r else m.getD r []
/-- The determinant, step by step. -/
def detF (p : Int) : Nat → List (List Int) → Nat → Int → Int
 | 0, _, _, out => out
 | f + 1, m, i, out => if pivOf m i i = m.length then 0 else
     detF p f (dClr p (swapL m i (pivOf m i i)) i m.length) (i + 1) ((if pivOf m i i = i then out else (-out) % p) * ent (swapL m i (pivOf m i i)) i i % p)
def detL (p : Int) (m : List (List Int)) : Int := detF p m.length m 0 1
section
variable {p : Int} {n : Nat} {m : List (List Int)} {i j : Nat}
theorem dClr_len (p : Int) (m : List (List Int)) (i j : Nat) : (dClr p m i j).length = m.length := tab_len _ _
theorem dClr_start (p : Int) (m : List (List Int)) (i : Nat) : dClr p m i (i + 1) = m := by
 refine List.ext_getElem (tab_len _ _) fun r h1 h2 => ?_
 have h := tab_getD (d := []) (n := m.length) (f := fun r => if i < r ∧ r < i + 1 then dRow p m i r else m.getD r []) h2
 rw [if_neg (by omega), getD_of_lt [] h2] at h
 rw [← getD_of_lt [] h1]
 exact h
theorem dClr_getD {r : Nat} (h : r < m.length) : (dClr p m i j).getD r [] = if i < r ∧ r < j then dRow p m i r else m.getD r [] := tab_getD h []
theorem dClr_succ (hj : j < m.length) (h : i < j) : dClr p m i (j + 1) = (dClr p m i j).set j (dRow p m i j) := by
 refine list_ext_getD [] (by rw [List.length_set, dClr_len, dClr_len]) fun r hr => ?_
 rw [dClr_len] at hr
 rw [getD_set, dClr_getD hr, dClr_getD hr, dClr_len]
 by_cases e : j = r
 · subst e
   rw [if_pos ⟨h, by omega⟩, if_pos ⟨rfl, hj⟩]
 · rw [if_neg (c := j = r ∧ _) (fun h => e h.1)]
   by_cases h2 : i < r ∧ r < j
   · rw [if_pos ⟨h2.1, by omega⟩, if_pos h2]
   · rw [if_neg fun h3 => h2 ⟨h3.1, by omega⟩, if_neg h2]
theorem dClr_tab (hp : 0 < p) (h : Tab p n m) (i j : Nat) : Tab p n (dClr p m i j) := Tab.tab fun r hr => by
 split
 · exact ⟨by unfold dRow; rw [plusL_len, (h.row hr).1], plusL_nums hp _ _ _⟩
 · exact h.row hr
theorem swapL_same (m : List (List Int)) {i : Nat} (hi : i < m.length) : swapL m i i = m := by
 unfold swapL
 refine list_ext_getD [] (by simp) fun r hr => ?_
 rw [getD_set, getD_set]
 by_cases e : i = r
 · subst e; rw [if_pos ⟨rfl, by simpa using hi⟩]
 · rw [if_neg fun h => e h.1, if_neg fun h => e h.1]
theorem detF_small (hp : 0 < p) : ∀ (f : Nat) (m : List (List Int)) (i : Nat) (out : Int), 0 ≤ out ∧ out < p → 0 ≤ detF p f m i out ∧ detF p f m i out < p := by
 intro f
 induction f with
 | zero => intro m i out h; exact h
 | succ f ih =>
  intro m i out h
  unfold detF
  split
  · omega
  · exact ih _ _ _ ⟨Int.emod_nonneg _ (by omega), Int.emod_lt_of_pos _ hp⟩
theorem detL_small (hp : 2 ≤ p) (m : List (List Int)) : 0 ≤ detL p m ∧ detL p m < p := detF_small (by omega) _ _ _ _ (by omega)
theorem detF_none {f : Nat} {out : Int} (h : pivOf m i i = m.length) : detF p (f + 1) m i out = 0 := by unfold detF; rw [if_pos h]
theorem detF_step {f : Nat} {out : Int} (h : ¬ pivOf m i i = m.length) : detF p (f + 1) m i out = detF p f (dClr p (swapL m i (pivOf m i i)) i m.length) (i + 1) ((if pivOf m i i = i then out else (-out) % p) * ent (swapL m i (pivOf m i i)) i i % p) := by
 conv => lhs; unfold detF
 rw [if_neg h]
theorem mul_b {a b : Int} (ha : 0 ≤ a ∧ a ≤ 1000) (hb : 0 ≤ b ∧ b ≤ 1000) : 0 ≤ a * b ∧ a * b ≤ 1000000 := by
 refine ⟨Int.mul_nonneg ha.1 hb.1, ?_⟩
 have := Int.mul_le_mul ha.2 hb.2 hb.1 (by omega : (0 : Int) ≤ 1000)
 omega
end
/-- Rows none of which is a sum of multiples of others. -/
def Ind (p : Int) (n : Nat) (L : List (List Int)) : Prop := ∀ c : Nat → Int, (∀ q, q < n → (sumTo L.length fun i => c i * ent L i q) % p = 0) → ∀ i, i < L.length → c i % p = 0
section
variable {p : Int} {n : Nat}
theorem Red.ind {B : List (List Int)} (hR : Red n B) : Ind p n B := fun c hc i hi => by
 have h := hc _ (hR.lt i hi)
 rwa [sumTo_one (f := fun j => c j * ent B j (ld B i)) i hi (fun j hj hne => by rw [hR.zero i j hi hj hne, Int.mul_zero]), hR.one i hi, Int.mul_one] at h
/-- Leads that fill the first places. -/
theorem Red.fills {B : List (List Int)} (hR : Red n B) {N : Nat} (h : ∀ f, f < N → isLd B f = true) : N ≤ B.length := by
 have key : ∀ f, f < N → ∃ i, i < B.length ∧ ld B i = f ∧ f ≤ i := by
  intro f
  induction f with
  | zero => intro h0; obtain ⟨i, hi, e⟩ := isLd_iff.1 (h 0 h0); exact ⟨i, hi, e, Nat.zero_le _⟩
  | succ f ih =>
   intro hf
   obtain ⟨i, hi, e, hle⟩ := ih (by omega)
   obtain ⟨j, hj, e2⟩ := isLd_iff.1 (h (f + 1) hf)
   refine ⟨j, hj, e2, ?_⟩
   rcases Nat.lt_trichotomy i j with hl | hl | hl
   · omega
   · subst hl; omega
   · have := hR.mono j i hl hi; omega
 rcases Nat.eq_zero_or_pos N with rfl | hN
 · exact Nat.zero_le _
 · obtain ⟨i, hi, -, hle⟩ := key (N - 1) (by omega)
   omega
/-- Independent vectors that others make are no more than these. -/
theorem Ind.le (hP : isP p = true) {L M : List (List Int)} (hI : Ind p n L) (hS : InSp p n L M) : L.length ≤ M.length := by
 have hp : 2 ≤ p := by have := isP_ge hP; omega
 refine Classical.byContradiction fun hlt => ?_
 have hch : ∀ i, ∃ a : Nat → Int, i < L.length → ∀ q, q < n → ent L i q % p = (sumTo M.length fun j => a j * ent M j q) % p := fun i => by
  by_cases hi : i < L.length
  · obtain ⟨a, ha⟩ := hS i hi; exact ⟨a, fun _ => ha⟩
  · exact ⟨fun _ => 0, fun h => absurd h hi⟩
 obtain ⟨a, ha⟩ := Classical.axiomOfChoice hch
 obtain ⟨A, hA⟩ : ∃ A : List (List Int), A = tab M.length fun j => tab L.length fun i => a i j % p := ⟨_, rfl⟩
 have hAl : A.length = M.length := by rw [hA, tab_len]
 have hAT : Tab p L.length A := by
  rw [hA]
  exact Tab.tab fun j _ => ⟨tab_len _ _, NumsL.tab fun i _ => ⟨Int.emod_nonneg _ (by omega), Int.emod_lt_of_pos _ (by omega)⟩⟩
 have hAe : ∀ j i, j < M.length → i < L.length → ent A j i = a i j % p := fun j i hj hi => by
  unfold ent; rw [hA, tab_getD hj, tab_getD hi]
 have hR := basisL_red hP A hAT
 have hRl := (basisL_len (p := p) (by omega) A hAT).2
 have hf : ∃ f, f < L.length ∧ isLd (basisL p A) f = false := Classical.byContradiction fun hno => by
  have := hR.fills (N := L.length) fun f hf => by
   cases e : isLd (basisL p A) f
   · exact absurd ⟨f, hf, e⟩ hno
   · rfl
  omega
 obtain ⟨f, hf, hfl⟩ := hf
 have ho := (freeRow_orth (p := p) hR hf hfl).of_in (basisL_in hP A hAT).2
 obtain ⟨c, hc⟩ : ∃ c : Nat → Int, c = fun q => (freeRow p (basisL p A) L.length f).getD q 0 := ⟨_, rfl⟩
 have h0 := hI c (fun q hq => by
  have e1 : (sumTo L.length fun i => c i * ent L i q) % p = (sumTo L.length fun i => c i * sumTo M.length fun j => a i j * ent M j q) % p := sumTo_mod p fun i hi => cg_mul rfl (ha i hi q hq)
  rw [e1, sumTo_congr (g := fun i => sumTo M.length fun j => c i * (a i j * ent M j q)) fun i _ => (sumTo_mul _ _ _).symm, sumTo_comm]
  refine (sumTo_mod p (g := fun _ => 0) fun j hj => ?_).trans (by rw [sumTo_zero fun _ _ => rfl]; rfl)
  have h1 := ho j (by omega)
  have e2 : (sumTo L.length fun i => c i * (a i j * ent M j q)) = ent M j q * sumTo L.length fun i => a i j * c i := by
   rw [← sumTo_mul]; exact sumTo_congr fun i _ => by rw [← Int.mul_assoc, Int.mul_comm (ent M j q), Int.mul_comm (c i)]
  rw [e2]
  have e3 : (sumTo L.length fun i => a i j * c i) % p = (sumTo L.length fun q => ent A j q * (freeRow p (basisL p A) L.length f).getD q 0) % p := sumTo_mod p fun i hi => by
   rw [hAe j i hj hi, hc]; exact cg_mul (cg_self _ _).symm rfl
  exact (cg_mul rfl (e3.trans h1)).trans (by rw [Int.mul_zero])) f hf
 rw [hc] at h0
 simp only [freeRow_own (p := p) (B := basisL p A) hf] at h0
 rw [Int.emod_eq_of_lt (by omega) (by omega)] at h0
 exact absurd h0 (by decide)
theorem Ind.same (hP : isP p = true) {L M : List (List Int)} (hL : Ind p n L) (hM : Ind p n M) (h1 : InSp p n L M) (h2 : InSp p n M L) : L.length = M.length :=
 Nat.le_antisymm (hL.le hP h1) (hM.le hP h2)
/-- The reduced basis of independent vectors has as many. -/
theorem Ind.basis (hP : isP p = true) {L : List (List Int)} (hT : Tab p n L) (hL : Ind p n L) : (basisL p L).length = L.length :=
 (basisL_red hP L hT).ind.same hP hL (basisL_in hP L hT).1 (basisL_in hP L hT).2
theorem freeTo_count {B : List (List Int)} (hR : Red n B) : ∀ k, ∃ t, t ≤ B.length ∧ (∀ i, i < B.length → (ld B i < k ↔ i < t)) ∧ (freeTo p B n k).length + t = k := by
 intro k
 induction k with
 | zero => exact ⟨0, Nat.zero_le _, fun i _ => by simp, rfl⟩
 | succ k ih =>
  obtain ⟨t, h1, h2, h3⟩ := ih
  cases e : isLd B k with
  | true =>
   obtain ⟨i, hi, hk⟩ := isLd_iff.1 e
   have hit : i = t := by
    have a1 : ¬ i < t := fun h => by have := (h2 i hi).2 h; omega
    have a2 : ¬ t < i := fun h => by
     have b1 := hR.mono t i h hi
     have b2 := (h2 t (by omega)).1 (by omega)
     omega
    omega
   refine ⟨t + 1, by omega, fun j hj => ⟨fun h => ?_, fun h => ?_⟩, by rw [freeTo_skip e]; omega⟩
   · refine Classical.byContradiction fun hc => ?_
     have := hR.mono i j (by omega) hj
     omega
   · rcases Nat.lt_or_ge j t with h4 | h4
     · have := (h2 j hj).2 h4; omega
     · obtain rfl : j = i := by omega
       omega
  | false =>
   refine ⟨t, h1, fun j hj => ?_, by rw [freeTo_take e, List.length_append]; simp; omega⟩
   have hne : ld B j ≠ k := fun h => by rw [isLd_iff.2 ⟨j, hj, h⟩] at e; cases e
   rw [← h2 j hj]; omega
theorem freeTo_length {B : List (List Int)} (hR : Red n B) : (freeTo p B n n).length + B.length = n := by
 obtain ⟨t, h1, h2, h3⟩ := freeTo_count (p := p) hR n
 have : t = B.length := by
  refine Nat.le_antisymm h1 (Nat.le_of_not_lt fun h => ?_)
  have := (h2 t h).1 (hR.lt t h)
  omega
 omega
theorem freeTo_row {B : List (List Int)} {r : Nat} (hr : r < (freeTo p B n n).length) : ∃ f, f < n ∧ isLd B f = false ∧ (freeTo p B n n).getD r [] = freeRow p B n f := by
 obtain ⟨f, h1, h2, h3⟩ := freeTo_mem.1 (getD_mem [] hr)
 exact ⟨f, h1, h2, h3⟩
theorem freeTo_inj {B : List (List Int)} : ∀ k, ∀ r s, r < s → s < (freeTo p B n k).length → k ≤ n → ∃ f, f < k ∧ isLd B f = false ∧ (freeTo p B n k).getD s [] = freeRow p B n f ∧ ∃ g, g < f ∧ isLd B g = false ∧ (freeTo p B n k).getD r [] = freeRow p B n g := by
 intro k
 induction k with
 | zero => intro r s _ hs; rw [freeTo_zero] at hs; simp at hs
 | succ k ih =>
  intro r s hrs hs hk
  cases e : isLd B k with
  | true =>
   rw [freeTo_skip e] at hs ⊢
   obtain ⟨f, h1, h2⟩ := ih r s hrs hs (by omega)
   exact ⟨f, by omega, h2⟩
  | false =>
   rw [freeTo_take e] at hs ⊢
   rw [List.length_append] at hs
   simp only [List.length_cons, List.length_nil] at hs
   rcases Nat.lt_or_ge s (freeTo p B n k).length with h4 | h4
   · rw [getD_app_left [] _ h4, getD_app_left [] _ (show r < _ by omega)]
     obtain ⟨f, h1, h2⟩ := ih r s hrs h4 (by omega)
     exact ⟨f, by omega, h2⟩
   · obtain ⟨z, hz⟩ : ∃ z, z = (freeTo p B n k).length := ⟨_, rfl⟩
     obtain rfl : s = z := by omega
     have h5 : r < (freeTo p B n k).length := by omega
     obtain ⟨g, h6, h7, h8⟩ := freeTo_mem.1 (getD_mem [] h5)
     refine ⟨k, by omega, e, ?_, g, h6, h7, ?_⟩
     · have := getD_app_right [] (freeTo p B n k) [freeRow p B n k] 0
       rw [Nat.add_zero, ← hz] at this
       rw [this]; rfl
     · rw [getD_app_left [] _ h5, h8]
theorem freeTo_ind {B : List (List Int)} (_hR : Red n B) : Ind p n (freeTo p B n n) := fun c hc i hi => by
 obtain ⟨f, h1, h2, h3⟩ := freeTo_row hi
 have h := hc f h1
 rwa [sumTo_one (f := fun j => c j * ent (freeTo p B n n) j f) i hi (fun j hj hne => by
  have : ent (freeTo p B n n) j f = 0 := by
   unfold ent
   rcases Nat.lt_or_ge j i with hl | hl
   · obtain ⟨f', a1, a2, a3, g, a4, a5, a6⟩ := freeTo_inj (p := p) (B := B) n j i hl hi (Nat.le_refl _)
     have : f' = f := by
      refine Classical.byContradiction fun hn => ?_
      have b1 := freeRow_own (p := p) (B := B) a1
      have b2 := freeRow_no (p := p) (B := B) (f := f) a1 hn a2
      rw [← a3, h3, b2] at b1
      exact absurd b1 (by decide)
     rw [a6, freeRow_no h1 (by omega) h2]
   · obtain ⟨f', a1, a2, a3, g, a4, a5, a6⟩ := freeTo_inj (p := p) (B := B) n i j (by omega) hj (Nat.le_refl _)
     have : g = f := by
      refine Classical.byContradiction fun hn => ?_
      have b1 := freeRow_own (p := p) (B := B) (n := n) (f := g) (by omega)
      have b2 := freeRow_no (p := p) (B := B) (n := n) (f := f) (k := g) (by omega) hn a5
      rw [← a6, h3, b2] at b1
      exact absurd b1 (by decide)
     rw [a3, freeRow_no h1 (by omega) h2]
  rw [this, Int.mul_zero]), show ent (freeTo p B n n) i f = 1 by unfold ent; rw [h3, freeRow_own h1], Int.mul_one] at h
/-- Kernel and reduced basis have together as many vectors as there are columns. -/
theorem kernL_dim (hP : isP p = true) {m : List (List Int)} (hT : Tab p n m) : (kernL p m n).length + (basisL p m).length = n := by
 have hp : 2 ≤ p := by have := isP_ge hP; omega
 have hR := basisL_red hP m hT
 unfold kernL
 rw [(freeTo_ind hR).basis hP (freeTo_tab hp _ _ _)]
 exact freeTo_length hR
theorem ent_trans {m : List (List Int)} (hT : Tab p n m) (h0 : 0 < m.length) {i q : Nat} (hi : i < m.length) (hq : q < n) : ent (transL m) q i = ent m i q := by
 unfold ent
 rw [transL_row hT h0 hq, tab_getD hi]; rfl
/-- Columns are made by no more than rows are. -/
theorem rank_cols (hP : isP p = true) {m : List (List Int)} (hT : Tab p n m) (h0 : 0 < m.length) : (basisL p (transL m)).length ≤ (basisL p m).length := by
 have hp : 2 ≤ p := by have := isP_ge hP; omega
 have hTT := transL_tab (p := p) (by omega) hT
 obtain ⟨R, hR⟩ : ∃ R, R = basisL p m := ⟨_, rfl⟩
 have hS := (basisL_in hP m hT).2
 rw [← hR] at hS ⊢
 have hch : ∀ i, ∃ a : Nat → Int, i < m.length → ∀ q, q < n → ent m i q % p = (sumTo R.length fun j => a j * ent R j q) % p := fun i => by
  by_cases hi : i < m.length
  · obtain ⟨a, ha⟩ := hS i hi; exact ⟨a, fun _ => ha⟩
  · exact ⟨fun _ => 0, fun h => absurd h hi⟩
 obtain ⟨a, ha⟩ := Classical.axiomOfChoice hch
 obtain ⟨A, hA⟩ : ∃ A : List (List Int), A = tab R.length fun j => tab m.length fun i => a i j % p := ⟨_, rfl⟩
 have hAl : A.length = R.length := by rw [hA, tab_len]
 have hAe : ∀ j i, j < R.length → i < m.length → ent A j i = a i j % p := fun j i hj hi => by
  unfold ent; rw [hA, tab_getD hj, tab_getD hi]
 rw [← hAl]
 refine (basisL_red hP _ hTT).ind.le hP ((basisL_in hP _ hTT).1.trans fun q hq => ⟨fun j => ent R j q, fun i hi => ?_⟩)
 rw [transL_len hT h0] at hq
 show ent (transL m) q i % p = _
 rw [ent_trans hT h0 hi hq, ha i hi q hq, hAl]
 exact sumTo_mod p fun j hj => by rw [hAe j i hj hi, Int.mul_comm]; exact cg_mul rfl (cg_self _ _).symm
theorem trans_trans {m : List (List Int)} (hT : Tab p n m) (h0 : 0 < m.length) (hn : 0 < n) (hp : 0 < p) : transL (transL m) = m := by
 have hTT := transL_tab hp hT
 have hl := transL_len hT h0
 refine list_ext_getD [] (by rw [transL_len hTT (by omega)]) fun i hi => ?_
 rw [transL_len hTT (by omega)] at hi
 rw [transL_row hTT (by omega) hi, hl]
 refine list_ext_getD 0 (by rw [tab_len, (hT.row hi).1]) fun q hq => ?_
 rw [tab_len] at hq
 rw [tab_getD hq, ent_trans hT h0 hi hq]; rfl
/-- Rows and columns have the same rank. -/
theorem rank_trans (hP : isP p = true) {m : List (List Int)} (hT : Tab p n m) (h0 : 0 < m.length) (hn : 0 < n) : (basisL p (transL m)).length = (basisL p m).length := by
 have hp : 2 ≤ p := by have := isP_ge hP; omega
 refine Nat.le_antisymm (rank_cols hP hT h0) ?_
 have hTT := transL_tab (p := p) (by omega) hT
 have h := rank_cols hP hTT (by rw [transL_len hT h0]; exact hn)
 rwa [trans_trans hT h0 hn (by omega)] at h
end
end Go.Proofs.YtmkjdpnoloofjaaGreat
namespace Go.Proofs.YtmkjdpnoloofjaaGreat
open Go.RowKit
theorem unitM_ent {n i k : Nat} (hi : i < n) (hk : k < n) : ent (unitM n) i k = if i = k then 1 else 0 := by
 have hl : i < (unitM n).length := by rw [unitM_len]; exact hi
 unfold ent
 rw [getD_of_lt [] hl, unitM_get n i hl]
 unfold unitRow
 rw [getD_set, List.length_replicate]
 by_cases h : i = k
 · rw [if_pos ⟨h, hi⟩, if_pos h]
 · rw [if_neg (fun hh => h hh.1), if_neg h, getD_of_lt 0 (by simpa using hk)]; simp
theorem unitM_ld {n i : Nat} (hi : i < n) : ld (unitM n) i = i := by
 have hl : i < (unitM n).length := by rw [unitM_len]; exact hi
 have hr : ((unitM n).getD i []).length = n := by rw [getD_of_lt [] hl, unitM_get n i hl, unitRow_len]
 unfold ld
 refine leadL_eq _ _ (fun j hj => ?_) (.inr ⟨by rw [hr]; exact hi, ?_⟩)
 · have := unitM_ent (n := n) hi (show j < n by omega)
   unfold ent at this
   rw [this, if_neg (by omega)]
 · have := unitM_ent (n := n) hi hi
   unfold ent at this
   rw [this, if_pos rfl]; decide
theorem unitM_red (n : Nat) : Red n (unitM n) := by
 have hl := unitM_len n
 refine ⟨fun i hi => by rw [unitM_ld (by omega)]; omega, fun i hi => by rw [unitM_ld (by omega), unitM_ent (by omega) (by omega), if_pos rfl], fun i r hi hr hri => by rw [unitM_ld (by omega), unitM_ent (by omega) (by omega), if_neg hri], fun i j hij hj => by rw [unitM_ld (by omega), unitM_ld (by omega)]; exact hij⟩
end Go.Proofs.YtmkjdpnoloofjaaGreat
namespace Go.Proofs.YtmkjdpnoloofjaaGreat
section
variable {p : Int} {n : Nat}
theorem Cl.sm_cancel (hP : isP p = true) {sq : List Int} {x : Int} (hx : x % p ≠ 0) {a b : Cl p sq} (h : x * a = x * b) : a = b := by
 have h1 := Cl.sm_inv hP hx (rfl : x * a = x * a)
 have h2 := Cl.sm_inv hP hx (rfl : x * b = x * b)
 rw [h1, h2, h]
theorem Cl.prod_dclr (hp : 0 < p) (hP : isP p = true) {m : List (List Int)} (hT : Tab p n m) {i : Nat} (hi : i < m.length) : ∀ k, i + 1 + k ≤ m.length → (Cl.prod hp (dClr p m i (i + 1 + k)) : Cl p (zs n)) = Cl.prod hp m := by
 intro k
 induction k with
 | zero => intro _; rw [Nat.add_zero, dClr_start]
 | succ k ih =>
  intro hk
  rw [← Nat.add_assoc, dClr_succ (by omega) (by omega)]
  have e1 : m.getD (i + 1 + k) [] = (dClr p m i (i + 1 + k)).getD (i + 1 + k) [] := by rw [dClr_getD (by omega), if_neg (by omega)]
  have e2 : m.getD i [] = (dClr p m i (i + 1 + k)).getD i [] := by rw [dClr_getD hi, if_neg (by omega)]
  unfold dRow
  rw [e1, e2, Cl.prod_plus hp hP (dClr_tab hp hT i _) (by rw [dClr_len]; omega) (by rw [dClr_len]; exact hi) (by omega)]
  exact ih (by omega)
def diagP (m : List (List Int)) : Nat → Int
 | 0 => 1
 | k + 1 => diagP m k * ent m k k
theorem diagP_congr {m m' : List (List Int)} : ∀ k, (∀ r, r < k → ent m r r = ent m' r r) → diagP m k = diagP m' k := by
 intro k
 induction k with
 | zero => intro _; rfl
 | succ k ih => intro h; show diagP m k * ent m k k = diagP m' k * ent m' k k; rw [ih fun r hr => h r (by omega), h k (by omega)]
/-- Zeros below the diagonal in the first i columns. -/
def Upr (m : List (List Int)) (i : Nat) : Prop := ∀ r c, c < i → c < r → r < m.length → ent m r c = 0
theorem tri_row (hp : 0 < p) (hP : isP p = true) {m : List (List Int)} (hT : Tab p n m) (hl : m.length = n) (hU : Upr m n) {k : Nat} (hk : k < n) :
    (Cl.vec hp (m.getD k []) : Cl p (zs n)) * Cl.prod hp ((unitM n).drop (k + 1)) = ent m k k * (Cl.vec hp (unitRow n k) * Cl.prod hp ((unitM n).drop (k + 1))) := by
 have h3 := isP_ge hP
 obtain ⟨v, hv⟩ : ∃ v, v = plusL p (m.getD k []) (unitRow n k) (-(ent m k k)) := ⟨_, rfl⟩
 have hml := (hT.row (show k < m.length by omega)).1
 have hlen : ((unitM n).drop (k + 1)).length = n - (k + 1) := by rw [List.length_drop, unitM_len]
 have hentd : ∀ i, i < n - (k + 1) → ∀ q, q < n → ent ((unitM n).drop (k + 1)) i q = if k + 1 + i = q then 1 else 0 := fun i hi q hq => by
  have e : ((unitM n).drop (k + 1)).getD i [] = (unitM n).getD (k + 1 + i) [] := by
   rw [List.getD_eq_getElem?_getD, List.getD_eq_getElem?_getD, List.getElem?_drop]
  unfold ent
  rw [e, unitM_getD (by omega), unitRow_getD hq]
 have hvq : ∀ q, q < n → v.getD q 0 % p = (if q ≤ k then 0 else ent m k q) % p := fun q hq => by
  rw [hv, plusL_getD _ _ (by omega), unitRow_getD hq, cg_self]
  congr 1
  show ent m k q + _ = _
  by_cases h1 : q = k
  · subst h1; rw [if_pos rfl, if_pos (Nat.le_refl _)]; omega
  · rw [if_neg fun e => h1 e.symm]
    by_cases h2 : q ≤ k
    · rw [if_pos h2, hU k q (by omega) (by omega) (by omega)]; omega
    · rw [if_neg h2]; omega
 have hsp : Sp p n ((unitM n).drop (k + 1)) fun q => v.getD q 0 := by
  refine ⟨fun i => ent m k (k + 1 + i), fun q hq => ?_⟩
  show v.getD q 0 % p = _
  rw [hvq q hq, hlen]
  by_cases h : q ≤ k
  · rw [if_pos h, sumTo_zero fun i hi => ?_]
    rw [hentd i hi q hq, if_neg (by omega), Int.mul_zero]
  · rw [if_neg h, sumTo_one (q - (k + 1)) (by omega) fun i hi hne => ?_]
    · rw [hentd _ (by omega) q hq, if_pos (by omega), Int.mul_one]
      show ent m k q % p = ent m k (k + 1 + (q - (k + 1))) % p
      rw [show k + 1 + (q - (k + 1)) = q by omega]
    · rw [hentd i hi q hq, if_neg (by omega), Int.mul_zero]
 have hz := Cl.span_prod hp hP (v := v) hsp
 rw [hv, Cl.vec_plus hp (hml.trans (zs_len n).symm), Cl.add_mul, Cl.sm_mul] at hz
 have h9 := Cl.move hz
 rw [Int.neg_neg, Cl.zero_addz] at h9
 exact h9
def sfxP (m : List (List Int)) (n : Nat) : Nat → Int
 | 0 => 1
 | j + 1 => ent m (n - (j + 1)) (n - (j + 1)) * sfxP m n j
theorem sfx_diag (m : List (List Int)) (n : Nat) : ∀ j, j ≤ n → diagP m (n - j) * sfxP m n j = diagP m n := by
 intro j
 induction j with
 | zero => intro _; show diagP m n * 1 = _; rw [Int.mul_one]
 | succ j ih =>
  intro hj
  rw [← ih (by omega)]
  have e : n - j = (n - (j + 1)) + 1 := by omega
  rw [e]
  show _ * (_ * sfxP m n j) = diagP m (n - (j + 1)) * ent m (n - (j + 1)) (n - (j + 1)) * sfxP m n j
  rw [Int.mul_assoc]
theorem tri_prod (hp : 0 < p) (hP : isP p = true) {m : List (List Int)} (hT : Tab p n m) (hl : m.length = n) (hU : Upr m n) : (Cl.prod hp m : Cl p (zs n)) = diagP m n * Cl.prod hp (unitM n) := by
 have key : ∀ j, j ≤ n → (Cl.prod hp (m.drop (n - j)) : Cl p (zs n)) = sfxP m n j * Cl.prod hp ((unitM n).drop (n - j)) := by
  intro j
  induction j with
  | zero =>
   intro _
   rw [Nat.sub_zero, List.drop_eq_nil_of_le (by omega), List.drop_eq_nil_of_le (by rw [unitM_len]; omega)]
   rw [show sfxP m n 0 = 1 from rfl, Cl.one_sm]
  | succ j ih =>
   intro hj
   have hk : n - (j + 1) < n := by omega
   have e : n - j = (n - (j + 1)) + 1 := by omega
   have h1 := ih (by omega)
   rw [e] at h1
   have d1 : m.drop (n - (j + 1)) = m.getD (n - (j + 1)) [] :: m.drop (n - (j + 1) + 1) := by
    rw [List.drop_eq_getElem_cons (by omega), getD_of_lt [] (by omega)]
   have d2 : (unitM n).drop (n - (j + 1)) = unitRow n (n - (j + 1)) :: (unitM n).drop (n - (j + 1) + 1) := by
    rw [List.drop_eq_getElem_cons (by rw [unitM_len]; omega), unitM_get]
   rw [d1, d2, Cl.prod_cons, Cl.prod_cons, h1, Cl.mul_sm, tri_row hp hP hT hl hU hk, Cl.sm_sm]
   rw [show sfxP m n (j + 1) = ent m (n - (j + 1)) (n - (j + 1)) * sfxP m n j from rfl, Int.mul_comm (sfxP m n j)]
 have h := key n (Nat.le_refl _)
 rw [Nat.sub_self, List.drop_zero, List.drop_zero] at h
 have h2 := sfx_diag m n n (Nat.le_refl _)
 rw [Nat.sub_self] at h2
 have h3 : diagP m 0 = 1 := rfl
 rw [h3, Int.one_mul] at h2
 rw [h, h2]
/-- No number other than 0 in column i from row i on: the product is 0. -/
theorem no_pivot (hp : 0 < p) (hP : isP p = true) {m : List (List Int)} (hT : Tab p n m) (hl : m.length = n) {i : Nat} (hi : i < n) (hU : Upr m i) (h0 : ∀ r, i ≤ r → r < n → ent m r i = 0) : (Cl.prod hp m : Cl p (zs n)) = Cl.zero hp := by
 have hd : (Cl.prod hp (m.drop i) : Cl p (zs n)) = Cl.zero hp := by
  have hTd : Tab p n (m.drop i) := fun x hx => hT x (List.mem_of_mem_drop hx)
  rcases Cl.prod_basis hp hP hTd with h | ⟨h1, -⟩
  · exact h
  · exfalso
    have hR := basisL_red hP _ hTd
    have hin : InSp p n (m.drop i) ((unitM n).drop (i + 1)) := fun r hr => by
     rw [List.length_drop, hl] at hr
     have er : ∀ q, ent (m.drop i) r q = ent m (i + r) q := fun q => by
      have e : (m.drop i).getD r [] = m.getD (i + r) [] := by rw [List.getD_eq_getElem?_getD, List.getD_eq_getElem?_getD, List.getElem?_drop]
      unfold ent
      rw [e]
     have eu : ∀ t, t < n - (i + 1) → ∀ q, q < n → ent ((unitM n).drop (i + 1)) t q = if i + 1 + t = q then 1 else 0 := fun t ht q hq => by
      have e : ((unitM n).drop (i + 1)).getD t [] = (unitM n).getD (i + 1 + t) [] := by
       rw [List.getD_eq_getElem?_getD, List.getD_eq_getElem?_getD, List.getElem?_drop]
      unfold ent
      rw [e, unitM_getD (by omega), unitRow_getD hq]
     have hlen : ((unitM n).drop (i + 1)).length = n - (i + 1) := by rw [List.length_drop, unitM_len]
     refine ⟨fun t => ent m (i + r) (i + 1 + t), fun q hq => ?_⟩
     show ent (m.drop i) r q % p = _
     rw [er q, hlen]
     by_cases h : q ≤ i
     · have hz : ent m (i + r) q = 0 := by
        by_cases h2 : q = i
        · rw [h2]; exact h0 _ (by omega) (by omega)
        · exact hU _ _ (by omega) (by omega) (by omega)
       rw [hz, sumTo_zero fun t ht => ?_]
       rw [eu t ht q hq, if_neg (by omega), Int.mul_zero]
     · rw [sumTo_one (q - (i + 1)) (by omega) fun t ht hne => ?_]
       · rw [eu _ (by omega) q hq, if_pos (by omega), Int.mul_one]
         show ent m (i + r) q % p = ent m (i + r) (i + 1 + (q - (i + 1))) % p
         rw [show i + 1 + (q - (i + 1)) = q by omega]
       · rw [eu t ht q hq, if_neg (by omega), Int.mul_zero]
    have hle := (Red.ind (p := p) hR).le hP (M := (unitM n).drop (i + 1)) ((basisL_in hP _ hTd).1.trans hin)
    rw [h1, List.length_drop, List.length_drop, unitM_len, hl] at hle
    omega
 rw [← List.take_append_drop i m, Cl.prod_append, hd, Cl.mul_zero]
theorem piv_none {m : List (List Int)} {k : Nat} : ∀ (f d : Nat), piv m k f d = d + f → ∀ r, d ≤ r → r < d + f → ent m r k = 0 := by
 intro f
 induction f with
 | zero => intro d _ r h1 h2; omega
 | succ f ih =>
  intro d h r h1 h2
  have e : piv m k (f + 1) d = if ent m d k = 0 then piv m k f (d + 1) else d := rfl
  rw [e] at h
  by_cases h3 : ent m d k = 0
  · rw [if_pos h3] at h
    by_cases h4 : r = d
    · rw [h4]; exact h3
    · exact ih (d + 1) (by omega) r (by omega) (by omega)
  · rw [if_neg h3] at h; omega
theorem det_go (hp : 0 < p) (hP : isP p = true) : ∀ (f : Nat) (m : List (List Int)) (i : Nat) (out : Int), i + f = n → Tab p n m → m.length = n → Upr m i →
    out * (Cl.prod hp m : Cl p (zs n)) = (diagP m i * detF p f m i out) * Cl.prod hp (unitM n) := by
 have h3 := isP_ge hP
 intro f
 induction f with
 | zero =>
  intro m i out hi hT hl hU
  obtain rfl : i = n := by omega
  rw [show detF p 0 m i out = out from rfl, tri_prod hp hP hT hl hU, Cl.sm_sm, Int.mul_comm]
 | succ f ih =>
  intro m i out hi hT hl hU
  have hin : i < n := by omega
  obtain ⟨hb1, hb2⟩ := pivOf_bound m i i (by omega)
  by_cases hv : pivOf m i i = m.length
  · rw [detF_none hv, no_pivot hp hP hT hl hin hU (fun r h1 h2 => piv_none (m.length - i) i (by unfold pivOf at hv; omega) r h1 (by omega)), Cl.sm_zero, Int.mul_zero, Cl.zero_sm]
  · rw [detF_step hv]
    obtain ⟨k, hk⟩ : ∃ k, k = pivOf m i i := ⟨_, rfl⟩
    have hx0 : ent m k i ≠ 0 := by rw [hk]; exact piv_at m i _ _ (by unfold pivOf at hv hb2; omega)
    rw [← hk] at hb1 hb2 hv ⊢
    have hkl : k < m.length := by omega
    have hil : i < m.length := by omega
    obtain ⟨m1, hm1⟩ : ∃ m1, m1 = swapL m i k := ⟨_, rfl⟩
    have hT1 : Tab p n m1 := by rw [hm1]; exact swapL_tab hT hil hkl
    have hl1 : m1.length = n := by rw [hm1, swapL_len, hl]
    have hpr1 : (Cl.prod hp m1 : Cl p (zs n)) = swSg i k * Cl.prod hp m := by rw [hm1]; exact Cl.prod_swap' hp hP hT hil hkl
    have hent : ∀ r q, ent m1 r q = if r = k then ent m i q else if r = i then ent m k q else ent m r q := fun r q => by rw [hm1]; exact ent_swap hil hkl r q
    rw [← hm1]
    have hx1 : ent m1 i i = ent m k i := by
     rw [hent]
     by_cases e : i = k
     · rw [if_pos e, e]
     · rw [if_neg e, if_pos rfl]
    obtain ⟨x, hx⟩ : ∃ x, x = ent m k i := ⟨_, rfl⟩
    have hxb := hT.ent hp k i
    rw [← hx] at hx0 hx1 hxb
    rw [hx1, hl]
    have hxn : x % p ≠ 0 := by rw [Int.emod_eq_of_lt hxb.1 hxb.2]; exact hx0
    have hpr2 : (Cl.prod hp (dClr p m1 i n) : Cl p (zs n)) = Cl.prod hp m1 := by
     have := Cl.prod_dclr hp hP hT1 (i := i) (by omega) (n - (i + 1)) (by omega)
     rwa [show i + 1 + (n - (i + 1)) = n by omega] at this
    have hU1 : ∀ r c, c < i → c < r → r < n → ent m1 r c = 0 := fun r c h1 h2 h4 => by
     rw [hent]
     split
     · exact hU i c h1 h1 hil
     · split
       · exact hU k c h1 (by omega) hkl
       · exact hU r c h1 h2 (by omega)
    have hrow : ∀ r c, r ≤ i → ent (dClr p m1 i n) r c = ent m1 r c := fun r c hr => by
     unfold ent; rw [dClr_getD (by omega), if_neg (by omega)]
    have hU2 : Upr (dClr p m1 i n) (i + 1) := fun r c h1 h2 h4 => by
     rw [dClr_len, hl1] at h4
     by_cases hri : r ≤ i
     · rw [hrow r c hri]; exact hU1 r c (by omega) h2 h4
     · have e : (dClr p m1 i n).getD r [] = dRow p m1 i r := by rw [dClr_getD (by omega), if_pos ⟨by omega, h4⟩]
       unfold ent
       rw [e]
       unfold dRow
       rw [plusL_getD _ _ (by rw [(hT1.row (by omega)).1]; omega)]
       show (ent m1 r c + -(ent m1 r i) * invF p (ent m1 i i) * ent m1 i c) % p = 0
       by_cases hc : c = i
       · subst hc
         rw [hx1]
         have hi9 := inv_one hP hxb hx0
         obtain ⟨t, ht⟩ := cg_wit.1 hi9
         obtain ⟨y, hy⟩ : ∃ y, y = ent m1 r c := ⟨_, rfl⟩
         rw [← hy]
         exact (cg_wit.2 ⟨-(y * t), by
          have e2 : y + -y * invF p x * x = y - y * (x * invF p x) := by grind
          rw [e2, ht]; grind⟩).trans (Int.zero_emod p)
       · rw [hU1 r c (by omega) h2 h4, hU1 i c (by omega) (by omega) hin]
         simp
    have hIH := ih (dClr p m1 i n) (i + 1) ((if k = i then out else (-out) % p) * x % p) (by omega) (dClr_tab hp hT1 _ _) (by rw [dClr_len, hl1]) hU2
    have hdg : diagP (dClr p m1 i n) (i + 1) = diagP m i * x := by
     show diagP (dClr p m1 i n) i * ent (dClr p m1 i n) i i = _
     rw [hrow i i (Nat.le_refl _), hx1, diagP_congr (m' := m) i fun r hr => by rw [hrow r r (by omega), hent, if_neg (by omega), if_neg (by omega)]]
    rw [hdg, hpr2, hpr1, Cl.sm_sm] at hIH
    obtain ⟨D, hD⟩ : ∃ D, D = detF p f (dClr p m1 i n) (i + 1) ((if k = i then out else (-out) % p) * x % p) := ⟨_, rfl⟩
    rw [← hD] at hIH ⊢
    have hsg : ((if k = i then out else (-out) % p) * x % p * swSg i k) % p = (x * out) % p := by
     refine (cg_mul (cg_self _ _) rfl).trans ?_
     unfold swSg
     by_cases e : k = i
     · rw [if_pos e, if_pos e.symm, Int.mul_one, Int.mul_comm]
     · rw [if_neg e, if_neg fun h => e h.symm]
       refine (cg_mul (cg_mul (cg_self (a := -out) _) rfl) rfl).trans ?_
       congr 1; grind
    rw [Cl.sm_cg hsg] at hIH
    refine Cl.sm_cancel hP hxn ?_
    rw [Cl.sm_sm, hIH, Cl.sm_sm]
    congr 1
    grind
/-- The outer product of the rows. -/
theorem prod_det (hp : 0 < p) (hP : isP p = true) {m : List (List Int)} (hT : Tab p n m) (hl : m.length = n) : (Cl.prod hp m : Cl p (zs n)) = detL p m * Cl.prod hp (unitM n) := by
 have h := det_go hp hP n m 0 1 (by omega) hT hl (fun r c h => by omega)
 rw [Cl.one_sm] at h
 rw [h]
 unfold detL
 rw [hl]
 rw [show diagP m 0 = 1 from rfl, Int.one_mul]
end
theorem Ind.snoc' {p : Int} {n : Nat} (hP : isP p = true) {B : List (List Int)} {v : List Int} (hI : Ind p n B) (h : ¬ Sp p n B (fun q => v.getD q 0)) : Ind p n (B ++ [v]) := fun c hc => by
 have hsum : ∀ q, q < n → (sumTo B.length (fun i => c i * ent B i q) + c B.length * v.getD q 0) % p = 0 := fun q hq => by
  have h1 := hc q hq
  rw [List.length_append, List.length_singleton, sumTo_succ] at h1
  refine Eq.trans ?_ h1
  congr 1
  congr 1
  · refine sumTo_congr fun i hi => ?_
    unfold ent; rw [getD_app_left [] _ hi]
  · unfold ent
    have e9 : (B ++ [v]).getD B.length [] = v := by
     rw [List.getD_eq_getElem?_getD, List.getElem?_append_right (Nat.le_refl _)]
     simp
    rw [e9]
 have h0 : c B.length % p = 0 := Classical.byContradiction fun hne => h (by
  refine ⟨fun i => -(invF p (c B.length % p)) * c i, fun q hq => ?_⟩
  have hi := inv_mod hP hne
  obtain ⟨t, ht⟩ := cg_wit.1 ((hsum q hq).trans (Int.zero_emod p).symm)
  have h3 := isP_ge hP
  obtain ⟨s, hs⟩ := cg_wit.1 (hi.trans (Int.emod_eq_of_lt (a := 1) (by omega) (by omega)).symm)
  have e1 : (sumTo B.length fun i => -(invF p (c B.length % p)) * c i * ent B i q) = -(invF p (c B.length % p)) * sumTo B.length (fun i => c i * ent B i q) := by
   rw [← sumTo_mul]
   exact sumTo_congr fun i _ => Int.mul_assoc _ _ _
  rw [e1]
  obtain ⟨S, hS⟩ : ∃ S, S = sumTo B.length (fun i => c i * ent B i q) := ⟨_, rfl⟩
  obtain ⟨I, hI⟩ : ∃ I, I = invF p (c B.length % p) := ⟨_, rfl⟩
  obtain ⟨C, hC⟩ : ∃ C, C = c B.length := ⟨_, rfl⟩
  obtain ⟨V, hV⟩ : ∃ V, V = v.getD q 0 := ⟨_, rfl⟩
  rw [← hI, ← hC] at hs
  rw [← hS, ← hC, ← hV] at ht
  show v.getD q 0 % p = _
  rw [← hV, ← hI, ← hS]
  refine cg_wit.2 ⟨I * t - s * V, ?_⟩
  have e2 : S = p * t - C * V := by omega
  rw [e2]
  clear e1 e2 ht hi hsum hc
  grind)
 have h1 : ∀ i, i < B.length → c i % p = 0 := hI c fun q hq => by
  have h2 := hsum q hq
  obtain ⟨t, ht⟩ := cg_wit.1 (h0.trans (Int.zero_emod p).symm)
  rw [ht] at h2
  obtain ⟨S, hS⟩ : ∃ S, S = sumTo B.length (fun i => c i * ent B i q) := ⟨_, rfl⟩
  rw [← hS] at h2 ⊢
  obtain ⟨s, hs⟩ := cg_wit.1 (h2.trans (Int.zero_emod p).symm)
  exact (cg_wit.2 ⟨s - t * v.getD q 0, by grind⟩).trans (Int.zero_emod p)
 intro i hi
 rw [List.length_append, List.length_singleton] at hi
 rcases Nat.lt_or_ge i B.length with h2 | h2
 · exact h1 i h2
 · obtain rfl : i = B.length := by omega
   exact h0
section
variable {p : Int} {n : Nat}
/-- An alternating function of as many rows as columns. -/
structure Alt (hp : 0 < p) (F : List (List Int) → Cl p (zs n)) : Prop where
 swap : ∀ m, Tab p n m → m.length = n → ∀ i j, i < n → j < n → F (swapL m i j) = swSg i j * F m
 plus : ∀ m, Tab p n m → m.length = n → ∀ j d k, j < n → d < n → j ≠ d → F (m.set j (plusL p (m.getD j []) (m.getD d []) k)) = F m
 scale : ∀ m, Tab p n m → m.length = n → ∀ j k, j < n → F (m.set j (scaleL p (m.getD j []) k)) = k * F m
 zero : ∀ m, Tab p n m → m.length = n → ∀ r, r < n → (∀ q, q < n → ent m r q = 0) → F m = Cl.zero hp
theorem Alt.prod (hp : 0 < p) (hP : isP p = true) : Alt (n := n) hp (fun m => Cl.prod hp m) where
 swap := fun m hT hl i j hi hj => Cl.prod_swap' hp hP hT (by omega) (by omega)
 plus := fun m hT hl j d k hj hd hjd => Cl.prod_plus hp hP hT (by omega) (by omega) hjd k
 scale := fun m hT hl j k hj => by
  show (Cl.prod hp _ : Cl p (zs n)) = _
  rw [Cl.set_scale hp m (by omega) ((hT.row (by omega)).1.trans (zs_len n).symm), set_self m (by omega)]
 zero := fun m hT hl r hr h0 => by
  show (Cl.prod hp m : Cl p (zs n)) = _
  rw [Cl.prod_split hp m (show r < m.length by omega), Cl.vec_none hp (v := m.getD r []) (fun q hq => ?_), Cl.zero_mul, Cl.mul_zero]
  rw [zs_len] at hq
  have := h0 q hq
  unfold ent at this
  rw [this]; rfl
theorem Alt.clear {hp : 0 < p} {F : List (List Int) → Cl p (zs n)} (A : Alt hp F) {m : List (List Int)} (hT : Tab p n m) (hl : m.length = n) {d k : Nat} (hd : d < n) : ∀ j, j ≤ n → F (clearTo p m d k j) = F m := by
 intro j
 induction j with
 | zero => intro _; rw [clearTo_zero]
 | succ j ih =>
  intro hj
  by_cases h : j = d
  · subst h; rw [clearTo_skip]; exact ih (by omega)
  · rw [clearTo_succ p m d k j (by omega) h]
    have e1 : m.getD j [] = (clearTo p m d k j).getD j [] := by rw [clearTo_getD (by omega), if_neg (by omega)]
    have e2 : m.getD d [] = (clearTo p m d k j).getD d [] := by rw [clearTo_getD (by omega), if_neg (by omega)]
    rw [e1, e2, A.plus _ (clearTo_tab hp hT d k j) (by rw [clearTo_len, hl]) j d _ (by omega) hd h]
    exact ih (by omega)
theorem Alt.step {hp : 0 < p} (hP : isP p = true) {s : List (List Int) × Nat} {k : Nat} (hT : Tab p n s.1) (hl : s.1.length = n) (hd : s.2 ≤ n) : ∃ c : Int, c % p ≠ 0 ∧ ∀ F : List (List Int) → Cl p (zs n), Alt hp F → F (stepB p k s).1 = c * F s.1 := by
 have h3 := isP_ge hP
 unfold stepB
 by_cases h : pivOf s.1 k s.2 = s.1.length
 · rw [if_pos h]
   exact ⟨1, by rw [Int.emod_eq_of_lt (by omega) (by omega)]; decide, fun F _ => (Cl.one_sm _).symm⟩
 · rw [if_neg h]
   obtain ⟨hb1, hb2⟩ := pivOf_bound s.1 k s.2 (by omega)
   have hx : ent s.1 (pivOf s.1 k s.2) k ≠ 0 := piv_at s.1 k _ _ (by unfold pivOf at h hb2; omega)
   have hsl : (scaledAt p s.1 k s.2).length = s.1.length := scaledAt_len _ _ _ _
   have hst := scaledAt_tab (p := p) (k := k) hp hT (show s.2 < s.1.length by omega) (by omega)
   refine ⟨invF p (ent s.1 (pivOf s.1 k s.2) k) * swSg s.2 (pivOf s.1 k s.2), mul_ne hP (unit_inv hP (hT.ent hp _ _) hx) (swSg_ne hP _ _), fun F A => ?_⟩
   show F (clearTo p (scaledAt p s.1 k s.2) s.2 k s.1.length) = _
   rw [A.clear hst (by rw [hsl, hl]) (by omega) _ (by omega)]
   have hw : (swapL s.1 s.2 (pivOf s.1 k s.2)).getD s.2 [] = s.1.getD (pivOf s.1 k s.2) [] := by
    unfold swapL
    rw [getD_set]
    by_cases h : pivOf s.1 k s.2 = s.2
    · rw [if_pos ⟨h, by rw [List.length_set]; omega⟩, h]
    · rw [if_neg fun e => h e.1, getD_set, if_pos ⟨rfl, by omega⟩]
   unfold scaledAt
   rw [← hw, A.scale _ (swapL_tab hT (by omega) (by omega)) (by rw [swapL_len, hl]) _ _ (by omega), A.swap _ hT hl _ _ (by omega) (by omega), Cl.sm_sm]
theorem Alt.basisTo {hp : 0 < p} (hP : isP p = true) {m : List (List Int)} (hT : Tab p n m) (hl : m.length = n) : ∀ k, ∃ c : Int, c % p ≠ 0 ∧ ∀ F : List (List Int) → Cl p (zs n), Alt hp F → F (basisTo p m k).1 = c * F m := by
 have h3 := isP_ge hP
 intro k
 induction k with
 | zero => exact ⟨1, by rw [Int.emod_eq_of_lt (by omega) (by omega)]; decide, fun F _ => (Cl.one_sm _).symm⟩
 | succ k ih =>
  obtain ⟨c, hc, e⟩ := ih
  obtain ⟨t1, t2, t3⟩ := basisTo_inv hp m hT k
  obtain ⟨d, hd, e2⟩ := Alt.step (hp := hp) hP (s := Go.Proofs.YtmkjdpnoloofjaaGreat.basisTo p m k) (k := k) t1 (by omega) (by omega)
  refine ⟨d * c, mul_ne hP hd hc, fun F A => ?_⟩
  show F (stepB p k (Go.Proofs.YtmkjdpnoloofjaaGreat.basisTo p m k)).1 = _
  rw [e2 F A, e F A, Cl.sm_sm]
/-- A reduced basis with as many vectors as places is that of the units. -/
theorem full_unit (hP : isP p = true) {B : List (List Int)} (hR : Red n B) (hT : Tab p n B) (hl : B.length = n) : B = unitM n := by
 have h3 := isP_ge hP
 have hin : ∀ v : List Int, v.length = n → Sp p n (unitM n) fun q => v.getD q 0 := fun v hv => by
  refine ⟨fun i => v.getD i 0, fun q hq => ?_⟩
  rw [unitM_len, sumTo_one q hq fun i hi hne => ?_]
  · rw [unitM_ent hq hq, if_pos rfl, Int.mul_one]
  · rw [unitM_ent hi hq, if_neg hne, Int.mul_zero]
 have h1 : InSp p n B (unitM n) := InSp.of_mem fun x hx => hin x (hT x hx).1
 refine Red.unique (by omega) hR (unitM_red n) hT (unitM_tab (by omega) n) h1 (InSp.of_mem fun x hx => Classical.byContradiction fun hn => ?_)
 have hI := Ind.snoc' hP (Red.ind (p := p) hR) hn
 have hx2 := unitM_tab (p := p) (by omega) n x hx
 have hle := hI.le hP (M := unitM n) (InSp.append h1 (InSp.of_mem fun y hy => by rw [List.mem_singleton.1 hy]; exact hin x hx2.1))
 rw [List.length_append, List.length_singleton, unitM_len, hl] at hle
 omega
theorem det_uniq (hp : 0 < p) (h2 : 2 ≤ p) {a b : Int} (h : a * (Cl.prod hp (unitM n) : Cl p (zs n)) = b * Cl.prod hp (unitM n)) : a % p = b % p := by
 have h1 := Cl.prod_at hp h2 (unitM_red n) (unitM_tab h2 n)
 have hM := maskTo_lt (unitM_red n) (unitM n).length (Nat.le_refl _)
 have h3 : (a * Cl.prod hp (unitM n) : Cl p (zs n)).co (maskTo (unitM n) (unitM n).length) % p = (b * Cl.prod hp (unitM n) : Cl p (zs n)).co (maskTo (unitM n) (unitM n).length) % p := by rw [h]
 rw [Cl.sm_co _ _ (by rw [zs_len]; exact hM), Cl.sm_co _ _ (by rw [zs_len]; exact hM), h1, Int.mul_one, Int.mul_one] at h3
 exact h3
/-- An alternating function is the determinant times its value at the units. -/
theorem Alt.all {hp : 0 < p} (hP : isP p = true) {F : List (List Int) → Cl p (zs n)} (A : Alt hp F) {m : List (List Int)} (hT : Tab p n m) (hl : m.length = n) (hn : 0 < n) : F m = detL p m * F (unitM n) := by
 have h3 := isP_ge hP
 obtain ⟨c, hc, e⟩ := Alt.basisTo (hp := hp) hP hT hl n
 have eF := e F A
 have eG := e _ (Alt.prod hp hP)
 have hpd := prod_det hp hP hT hl
 obtain ⟨t1, t2, t3⟩ := basisTo_inv hp m hT n
 obtain ⟨ec, hE⟩ := basisTo_ech hP m hT n (Nat.le_refl _)
 have hl0 := row0_len hT (show 0 < m.length by omega)
 by_cases hfull : (Go.Proofs.YtmkjdpnoloofjaaGreat.basisTo p m n).2 = n
 · have e4 : basisL p m = (Go.Proofs.YtmkjdpnoloofjaaGreat.basisTo p m n).1 := by unfold basisL; rw [hl0, hfull, List.take_of_length_le (by omega)]
   have hu := full_unit hP (basisL_red hP m hT) (basisL_tab hp m hT) (by rw [e4]; omega)
   rw [← e4, hu] at eF eG
   have eG' : (Cl.prod hp (unitM n) : Cl p (zs n)) = c * Cl.prod hp m := eG
   rw [hpd, Cl.sm_sm] at eG'
   have h1 := det_uniq (a := 1) (b := c * detL p m) hp (by omega) (by rw [Cl.one_sm]; exact eG')
   rw [eF, Cl.sm_sm, Cl.sm_cg (j := 1) (by rw [Int.mul_comm]; exact h1.symm), Cl.one_sm]
 · have hz : ∀ G : List (List Int) → Cl p (zs n), Alt hp G → G m = Cl.zero hp := fun G AG => by
    refine Cl.sm_cancel hP hc ?_
    rw [← e G AG, Cl.sm_zero]
    exact AG.zero _ t1 (by omega) (Go.Proofs.YtmkjdpnoloofjaaGreat.basisTo p m n).2 (by omega) fun q hq => hE.rest _ (Nat.le_refl _) (by omega) q hq
   have h1 : (Cl.prod hp m : Cl p (zs n)) = Cl.zero hp := hz _ (Alt.prod hp hP)
   rw [hpd] at h1
   have h2 := det_uniq (a := detL p m) (b := 0) hp (by omega) (by rw [h1, Cl.zero_sm])
   rw [hz F A, Cl.sm_cg (j := 0) h2, Cl.zero_sm]
/-- A linear function of rows. -/
structure Lin (p : Int) (n : Nat) (T : List Int → List Int) : Prop where
 ok : ∀ v, v.length = n → NumsL p v → (T v).length = n ∧ NumsL p (T v)
 plus : ∀ a b k, a.length = n → NumsL p a → b.length = n → NumsL p b → T (plusL p a b k) = plusL p (T a) (T b) k
 scale : ∀ a k, a.length = n → NumsL p a → T (scaleL p a k) = scaleL p (T a) k
theorem map_tab {T : List Int → List Int} (L : Lin p n T) {m : List (List Int)} (hT : Tab p n m) : Tab p n (m.map T) := fun x hx => by
 obtain ⟨v, hv, rfl⟩ := List.mem_map.1 hx
 exact L.ok v (hT v hv).1 (hT v hv).2
theorem map_getD {T : List Int → List Int} {m : List (List Int)} {i : Nat} (hi : i < m.length) : (m.map T).getD i [] = T (m.getD i []) := by
 rw [getD_of_lt [] (by simpa using hi), getD_of_lt [] hi, List.getElem_map]
theorem Alt.map (hp : 0 < p) (hP : isP p = true) {T : List Int → List Int} (L : Lin p n T) : Alt (n := n) hp (fun m => Cl.prod hp (m.map T)) where
 swap := fun m hT hl i j hi hj => by
  show (Cl.prod hp ((swapL m i j).map T) : Cl p (zs n)) = _
  have e : (swapL m i j).map T = swapL (m.map T) i j := by unfold swapL; rw [List.map_set, List.map_set, map_getD (by omega), map_getD (by omega)]
  rw [e, Cl.prod_swap' hp hP (map_tab L hT) (by rw [List.length_map]; omega) (by rw [List.length_map]; omega)]
 plus := fun m hT hl j d k hj hd hjd => by
  show (Cl.prod hp ((m.set j _).map T) : Cl p (zs n)) = _
  have a := hT.row (show j < m.length by omega)
  have b := hT.row (show d < m.length by omega)
  rw [List.map_set, L.plus _ _ _ a.1 a.2 b.1 b.2, ← map_getD (T := T) (show j < m.length by omega), ← map_getD (T := T) (show d < m.length by omega),
   Cl.prod_plus hp hP (map_tab L hT) (by rw [List.length_map]; omega) (by rw [List.length_map]; omega) hjd]
 scale := fun m hT hl j k hj => by
  show (Cl.prod hp ((m.set j _).map T) : Cl p (zs n)) = _
  have a := hT.row (show j < m.length by omega)
  have hj' : j < (m.map T).length := by rw [List.length_map]; omega
  rw [List.map_set, L.scale _ _ a.1 a.2, ← map_getD (T := T) (show j < m.length by omega),
   Cl.set_scale hp _ hj' (((map_tab L hT).row hj').1.trans (zs_len n).symm), set_self _ hj']
 zero := fun m hT hl r hr h0 => by
  show (Cl.prod hp (m.map T) : Cl p (zs n)) = _
  have a := hT.row (show r < m.length by omega)
  have hz : m.getD r [] = scaleL p (m.getD r []) 0 := by
   refine list_ext_getD 0 (by rw [scaleL_len]) fun q hq => ?_
   rw [scaleL_getD _ hq, Int.mul_zero, Int.zero_emod]
   exact h0 q (by omega)
  have hj' : r < (m.map T).length := by rw [List.length_map]; omega
  have e : m.map T = (m.map T).set r (scaleL p ((m.map T).getD r []) 0) := by
   conv => lhs; rw [← set_self (m.map T) hj']
   rw [map_getD (show r < m.length by omega), ← L.scale _ _ a.1 a.2, ← hz]
  rw [e, Cl.set_scale hp _ hj' (((map_tab L hT).row hj').1.trans (zs_len n).symm), Cl.zero_sm]
theorem det_map (hp : 0 < p) (hP : isP p = true) {T : List Int → List Int} (L : Lin p n T) {m : List (List Int)} (hT : Tab p n m) (hl : m.length = n) (hn : 0 < n) : (Cl.prod hp (m.map T) : Cl p (zs n)) = detL p m * Cl.prod hp ((unitM n).map T) :=
 (Alt.map hp hP L).all hP hT hl hn
/-- The determinant of a product. -/
theorem applyL_len (p : Int) (a : List (List Int)) (v : List Int) : (applyL p a v).length = a.length := tab_len _ _
theorem applyL_nums (hp : 0 < p) (a : List (List Int)) (v : List Int) : NumsL p (applyL p a v) := NumsL.tab fun i _ => by
 unfold dotL
 exact ⟨Int.emod_nonneg _ (by omega), Int.emod_lt_of_pos _ hp⟩
theorem lin_apply (hp : 0 < p) {b : List (List Int)} (hb : Tab p n b) (hl : b.length = n) (hn : 0 < n) : Lin p n fun v => applyL p (transL b) v where
 ok := fun v hv _ => ⟨by rw [applyL_len, transL_len hb (by omega)], applyL_nums hp _ _⟩
 plus := fun x y k hx _ hy _ => by
  refine list_ext_getD 0 (by rw [applyL_len, plusL_len, applyL_len]) fun q hq => ?_
  rw [applyL_len, transL_len hb (by omega)] at hq
  rw [apply_at hb (by omega) _ hq, plusL_getD _ _ (by rw [applyL_len, transL_len hb (by omega)]; exact hq), apply_at hb (by omega) _ hq, apply_at hb (by omega) _ hq]
  have h1 : (sumTo b.length fun i => ent b i q * (plusL p x y k).getD i 0) % p = (sumTo b.length fun i => ent b i q * (x.getD i 0 + k * y.getD i 0)) % p := sumTo_mod p fun i hi => by
   rw [plusL_getD _ _ (by omega)]
   exact cg_mul rfl (cg_self _ _)
  have h2 : (sumTo b.length fun i => ent b i q * (x.getD i 0 + k * y.getD i 0)) = (sumTo b.length fun i => ent b i q * x.getD i 0) + k * sumTo b.length fun i => ent b i q * y.getD i 0 := by
   rw [← sumTo_mul, ← sumTo_add]
   exact sumTo_congr fun i _ => by grind
  rw [h1, h2]
  exact (cg_add (cg_self _ _) (cg_mul rfl (cg_self _ _))).symm
 scale := fun x k hx _ => by
  refine list_ext_getD 0 (by rw [applyL_len, scaleL_len, applyL_len]) fun q hq => ?_
  rw [applyL_len, transL_len hb (by omega)] at hq
  rw [apply_at hb (by omega) _ hq, scaleL_getD _ (by rw [applyL_len, transL_len hb (by omega)]; exact hq), apply_at hb (by omega) _ hq]
  have h1 : (sumTo b.length fun i => ent b i q * (scaleL p x k).getD i 0) % p = (sumTo b.length fun i => ent b i q * (x.getD i 0 * k)) % p := sumTo_mod p fun i hi => by
   rw [scaleL_getD _ (by omega)]
   exact cg_mul rfl (cg_self _ _)
  have h2 : (sumTo b.length fun i => ent b i q * (x.getD i 0 * k)) = (sumTo b.length fun i => ent b i q * x.getD i 0) * k := by
   rw [← sumTo_mul_right]
   exact sumTo_congr fun i _ => by grind
  rw [h1, h2]
  exact (cg_mul (cg_self _ _) rfl).symm
theorem unit_apply (hp : 2 ≤ p) {b : List (List Int)} (hb : Tab p n b) (hl : b.length = n) (hn : 0 < n) : (unitM n).map (fun v => applyL p (transL b) v) = b := by
 refine list_ext_getD [] (by rw [List.length_map, unitM_len, hl]) fun i hi => ?_
 rw [List.length_map, unitM_len] at hi
 rw [map_getD (by rw [unitM_len]; exact hi), unitM_getD hi]
 have hbi := hb.row (show i < b.length by omega)
 refine list_ext_getD 0 (by rw [applyL_len, transL_len hb (by omega), hbi.1]) fun q hq => ?_
 rw [applyL_len, transL_len hb (by omega)] at hq
 rw [apply_at hb (by omega) _ hq, hl, sumTo_one i hi fun r hr hne => ?_]
 · rw [unitRow_getD hi, if_pos rfl, Int.mul_one]
   have := hb.ent (by omega) i q
   exact Int.emod_eq_of_lt this.1 this.2
 · rw [unitRow_getD hr, if_neg fun e => hne e.symm, Int.mul_zero]
theorem det_times (hP : isP p = true) {a b : List (List Int)} (ha : Tab p n a) (hla : a.length = n) (hb : Tab p n b) (hlb : b.length = n) (hn : 0 < n) : detL p (timesM p a b) % p = (detL p a * detL p b) % p := by
 have h3 := isP_ge hP
 have hp : 0 < p := by omega
 have L := lin_apply hp hb hlb hn
 have e : timesM p a b = a.map fun v => applyL p (transL b) v := by
  unfold timesM
  refine list_ext_getD [] (by rw [tab_len, List.length_map]) fun i hi => ?_
  rw [tab_len] at hi
  rw [tab_getD hi, map_getD hi]
 have h1 := det_map hp hP L ha hla hn
 rw [← e, unit_apply (by omega) hb hlb hn, prod_det hp hP hb hlb, Cl.sm_sm, prod_det hp hP (by rw [e]; exact map_tab L ha) (by rw [e, List.length_map, hla])] at h1
 exact det_uniq hp (by omega) h1
end
section
variable {p : Int} {n : Nat}
theorem mat_ext {a b : List (List Int)} (ha : Tab p n a) (hb : Tab p n b) (h : a.length = b.length) (he : ∀ i q, i < a.length → q < n → ent a i q = ent b i q) : a = b := by
 refine list_ext_getD [] h fun i hi => ?_
 have h1 := ha.row hi
 have h2 := hb.row (show i < b.length by omega)
 refine list_ext_getD 0 (by rw [h1.1, h2.1]) fun q hq => ?_
 rw [h1.1] at hq
 exact he i q hi hq
/-- Places exchanged. -/
def swC (n i j : Nat) (v : List Int) : List Int := tab n fun q => v.getD (if q = j then i else if q = i then j else q) 0
/-- A multiple of place j added to place d. -/
def adC (p : Int) (n j d : Nat) (k : Int) (v : List Int) : List Int := tab n fun q => (v.getD q 0 + if q = j then k * v.getD d 0 else 0) % p
/-- A place multiplied. -/
def scC (p : Int) (n j : Nat) (k : Int) (v : List Int) : List Int := tab n fun q => (v.getD q 0 * if q = j then k else 1) % p
theorem sw_lt {i j q : Nat} (hi : i < n) (hj : j < n) (hq : q < n) : (if q = j then i else if q = i then j else q) < n := by
 split
 · exact hi
 · split
   · exact hj
   · exact hq
theorem swC_lin (hp : 0 < p) {i j : Nat} (hi : i < n) (hj : j < n) : Lin p n (swC n i j) where
 ok := fun v _ hv => ⟨tab_len _ _, NumsL.tab fun q _ => hv.getD hp _⟩
 plus := fun a b k ha _ hb _ => by
  refine list_ext_getD 0 (by rw [plusL_len]; unfold swC; rw [tab_len, tab_len]) fun q hq => ?_
  have hq' : q < n := by unfold swC at hq; rw [tab_len] at hq; exact hq
  rw [plusL_getD _ _ (by unfold swC; rw [tab_len]; exact hq')]
  unfold swC
  rw [tab_getD hq', tab_getD hq', tab_getD hq', plusL_getD _ _ (by rw [ha]; exact sw_lt hi hj hq')]
 scale := fun a k ha _ => by
  refine list_ext_getD 0 (by rw [scaleL_len]; unfold swC; rw [tab_len, tab_len]) fun q hq => ?_
  have hq' : q < n := by unfold swC at hq; rw [tab_len] at hq; exact hq
  rw [scaleL_getD _ (by unfold swC; rw [tab_len]; exact hq')]
  unfold swC
  rw [tab_getD hq', tab_getD hq', scaleL_getD _ (by rw [ha]; exact sw_lt hi hj hq')]
theorem adC_lin (hp : 0 < p) {j d : Nat} (_hj : j < n) (hd : d < n) (k : Int) : Lin p n (adC p n j d k) where
 ok := fun v _ _ => ⟨tab_len _ _, NumsL.tab fun q _ => ⟨Int.emod_nonneg _ (by omega), Int.emod_lt_of_pos _ hp⟩⟩
 plus := fun a b c ha _ hb _ => by
  refine list_ext_getD 0 (by rw [plusL_len]; unfold adC; rw [tab_len, tab_len]) fun q hq => ?_
  have hq' : q < n := by unfold adC at hq; rw [tab_len] at hq; exact hq
  rw [plusL_getD _ _ (by unfold adC; rw [tab_len]; exact hq')]
  unfold adC
  rw [tab_getD hq', tab_getD hq', tab_getD hq', plusL_getD _ _ (by omega), plusL_getD _ _ (by omega)]
  refine Eq.trans ?_ (cg_add (cg_self _ _) (cg_mul rfl (cg_self _ _))).symm
  by_cases h : q = j
  · rw [if_pos h, if_pos h, if_pos h]
    refine (cg_add (cg_self _ _) (cg_mul rfl (cg_self _ _))).trans ?_
    congr 1; grind
  · rw [if_neg h, if_neg h, if_neg h, Int.add_zero, Int.add_zero, Int.add_zero]
    exact cg_self _ _
 scale := fun a c ha _ => by
  refine list_ext_getD 0 (by rw [scaleL_len]; unfold adC; rw [tab_len, tab_len]) fun q hq => ?_
  have hq' : q < n := by unfold adC at hq; rw [tab_len] at hq; exact hq
  rw [scaleL_getD _ (by unfold adC; rw [tab_len]; exact hq')]
  unfold adC
  rw [tab_getD hq', tab_getD hq', scaleL_getD _ (by omega), scaleL_getD _ (by omega)]
  refine Eq.trans ?_ (cg_mul (cg_self _ _) rfl).symm
  by_cases h : q = j
  · rw [if_pos h, if_pos h]
    refine (cg_add (cg_self _ _) (cg_mul rfl (cg_self _ _))).trans ?_
    congr 1; grind
  · rw [if_neg h, if_neg h, Int.add_zero, Int.add_zero]
    exact cg_self _ _
theorem scC_lin (hp : 0 < p) (j : Nat) (k : Int) : Lin p n (scC p n j k) where
 ok := fun v _ _ => ⟨tab_len _ _, NumsL.tab fun q _ => ⟨Int.emod_nonneg _ (by omega), Int.emod_lt_of_pos _ hp⟩⟩
 plus := fun a b c ha _ hb _ => by
  refine list_ext_getD 0 (by rw [plusL_len]; unfold scC; rw [tab_len, tab_len]) fun q hq => ?_
  have hq' : q < n := by unfold scC at hq; rw [tab_len] at hq; exact hq
  rw [plusL_getD _ _ (by unfold scC; rw [tab_len]; exact hq')]
  unfold scC
  rw [tab_getD hq', tab_getD hq', tab_getD hq', plusL_getD _ _ (by omega)]
  refine Eq.trans ?_ (cg_add (cg_self _ _) (cg_mul rfl (cg_self _ _))).symm
  refine (cg_mul (cg_self _ _) rfl).trans ?_
  congr 1; grind
 scale := fun a c ha _ => by
  refine list_ext_getD 0 (by rw [scaleL_len]; unfold scC; rw [tab_len, tab_len]) fun q hq => ?_
  have hq' : q < n := by unfold scC at hq; rw [tab_len] at hq; exact hq
  rw [scaleL_getD _ (by unfold scC; rw [tab_len]; exact hq')]
  unfold scC
  rw [tab_getD hq', tab_getD hq', scaleL_getD _ (by omega)]
  refine Eq.trans ?_ (cg_mul (cg_self _ _) rfl).symm
  refine (cg_mul (cg_self _ _) rfl).trans ?_
  congr 1; grind
theorem trans_at {m : List (List Int)} (hT : Tab p n m) (hl : m.length = n) (hn : 0 < n) {i q : Nat} (hi : i < n) (hq : q < n) : ent (transL m) i q = ent m q i := ent_trans hT (by omega) (by omega) hi
theorem trans_ok (hp : 0 < p) {m : List (List Int)} (hT : Tab p n m) (hl : m.length = n) (hn : 0 < n) : Tab p n (transL m) ∧ (transL m).length = n := by
 have := transL_tab hp hT
 rw [hl] at this
 exact ⟨this, transL_len hT (by omega)⟩
/-- The product of a transposed matrix's rows. -/
theorem Alt.trans (hp : 0 < p) (hP : isP p = true) (hn : 0 < n) : Alt (n := n) hp (fun m => Cl.prod hp (transL m)) := by
 have h3 := isP_ge hP
 have hU := unitM_tab (p := p) (by omega) n
 have hUl := unitM_len n
 have key : ∀ (T : List Int → List Int) (L : Lin p n T) (m m' : List (List Int)) (c : Int), Tab p n m → m.length = n → Tab p n m' → m'.length = n →
     (∀ i q, i < n → q < n → ent m' i q = (T ((transL m).getD q [])).getD i 0) → (Cl.prod hp ((unitM n).map T) : Cl p (zs n)) = c * Cl.prod hp (unitM n) →
     (Cl.prod hp (transL m') : Cl p (zs n)) = c * Cl.prod hp (transL m) := by
  intro T L m m' c hT hl hT' hl' he hu
  obtain ⟨t1, t2⟩ := trans_ok hp hT hl hn
  obtain ⟨t1', t2'⟩ := trans_ok hp hT' hl' hn
  have e : transL m' = (transL m).map T := mat_ext t1' (map_tab L t1) (by rw [List.length_map, t2, t2']) fun i q hi hq => by
   rw [t2'] at hi
   rw [trans_at hT' hl' hn hi hq, he q i hq hi]
   show _ = (((transL m).map T).getD i []).getD q 0
   rw [map_getD (by omega)]
  rw [e, det_map hp hP L t1 t2 hn, hu, Cl.sm_sm, Int.mul_comm, ← Cl.sm_sm, ← prod_det hp hP t1 t2]
 have rowT : ∀ (m : List (List Int)), Tab p n m → m.length = n → ∀ q, q < n → ∀ i, i < n → ((transL m).getD q []).getD i 0 = ent m i q := fun m hT hl q hq i hi => trans_at hT hl hn hq hi
 refine ⟨fun m hT hl i j hi hj => ?_, fun m hT hl j d k hj hd hjd => ?_, fun m hT hl j k hj => ?_, fun m hT hl r hr h0 => ?_⟩
 · refine key (swC n i j) (swC_lin hp hi hj) m _ _ hT hl (swapL_tab hT (by omega) (by omega)) (by rw [swapL_len, hl]) (fun r q hr hq => ?_) ?_
   · rw [ent_swap (by omega) (by omega)]
     unfold swC
     rw [tab_getD hr]
     split
     · rw [rowT m hT hl q hq _ hi]
     · split
       · rw [rowT m hT hl q hq _ hj]
       · rw [rowT m hT hl q hq _ hr]
   · have e : (unitM n).map (swC n i j) = swapL (unitM n) i j := mat_ext (map_tab (swC_lin hp hi hj) hU) (swapL_tab hU (by omega) (by omega)) (by rw [List.length_map, swapL_len]) fun r q hr hq => by
      rw [List.length_map, hUl] at hr
      rw [ent_swap (by omega) (by omega)]
      show (((unitM n).map (swC n i j)).getD r []).getD q 0 = _
      rw [map_getD (by omega), unitM_getD hr]
      unfold swC
      rw [tab_getD hq, unitRow_getD (sw_lt hi hj hq), unitM_ent hi hq, unitM_ent hj hq, unitM_ent hr hq]
      grind
     rw [e, Cl.prod_swap' hp hP hU (by omega) (by omega)]
 · show (Cl.prod hp (transL _) : Cl p (zs n)) = Cl.prod hp (transL m)
   have hnew : Tab p n (m.set j (plusL p (m.getD j []) (m.getD d []) k)) := hT.set j ⟨by rw [plusL_len, (hT.row (by omega)).1], plusL_nums hp _ _ _⟩
   rw [← Cl.one_sm (Cl.prod hp (transL m))]
   refine key (adC p n j d k) (adC_lin hp hj hd k) m _ 1 hT hl hnew (by rw [List.length_set, hl]) (fun r q hr hq => ?_) ?_
   · rw [ent_set (by omega)]
     unfold adC
     rw [tab_getD hr, rowT m hT hl q hq _ hr, rowT m hT hl q hq _ hd]
     by_cases h : r = j
     · rw [if_pos h, if_pos h, plusL_getD _ _ (by rw [(hT.row (by omega)).1]; exact hq), h]; rfl
     · rw [if_neg h, if_neg h, Int.add_zero]
       have := hT.ent hp r q
       exact (Int.emod_eq_of_lt this.1 this.2).symm
   · have e : (unitM n).map (adC p n j d k) = (unitM n).set d (plusL p ((unitM n).getD d []) ((unitM n).getD j []) k) := mat_ext (map_tab (adC_lin hp hj hd k) hU) (hU.set d ⟨by rw [plusL_len, (hU.row (by omega)).1], plusL_nums hp _ _ _⟩) (by rw [List.length_map, List.length_set]) fun r q hr hq => by
      rw [List.length_map, hUl] at hr
      rw [ent_set (by omega)]
      show (((unitM n).map (adC p n j d k)).getD r []).getD q 0 = _
      rw [map_getD (by omega), unitM_getD hr]
      unfold adC
      rw [tab_getD hq, unitRow_getD hq, unitRow_getD hd]
      by_cases h : r = d
      · rw [if_pos h, plusL_getD _ _ (by rw [(hU.row (by omega)).1]; exact hq), unitM_getD hd, unitM_getD hj, unitRow_getD hq, unitRow_getD hq, h, if_pos rfl]
        congr 1
        by_cases hqj : q = j
        · rw [if_pos hqj, if_pos hqj.symm]
        · rw [if_neg hqj, if_neg (c := j = q) (fun e => hqj e.symm), Int.mul_zero]
      · rw [if_neg h, if_neg h, unitM_ent hr hq, Int.mul_zero]
        have hz : (if q = j then (0 : Int) else 0) = 0 := by split <;> rfl
        rw [hz, Int.add_zero]
        split
        · exact Int.emod_eq_of_lt (by omega) (by omega)
        · exact Int.zero_emod p
     rw [e, Cl.prod_plus hp hP hU (by omega) (by omega) (fun e => hjd e.symm), Cl.one_sm]
 · have hnew : Tab p n (m.set j (scaleL p (m.getD j []) k)) := hT.set j ⟨by rw [scaleL_len, (hT.row (by omega)).1], scaleL_nums hp _ _⟩
   refine key (scC p n j k) (scC_lin hp j k) m _ k hT hl hnew (by rw [List.length_set, hl]) (fun r q hr hq => ?_) ?_
   · rw [ent_set (by omega)]
     unfold scC
     rw [tab_getD hr, rowT m hT hl q hq _ hr]
     by_cases h : r = j
     · rw [if_pos h, if_pos h, scaleL_getD _ (by rw [(hT.row (by omega)).1]; exact hq), h]; rfl
     · rw [if_neg h, if_neg h, Int.mul_one]
       have := hT.ent hp r q
       exact (Int.emod_eq_of_lt this.1 this.2).symm
   · have e : (unitM n).map (scC p n j k) = (unitM n).set j (scaleL p ((unitM n).getD j []) k) := mat_ext (map_tab (scC_lin hp j k) hU) (hU.set j ⟨by rw [scaleL_len, (hU.row (by omega)).1], scaleL_nums hp _ _⟩) (by rw [List.length_map, List.length_set]) fun r q hr hq => by
      rw [List.length_map, hUl] at hr
      rw [ent_set (by omega)]
      show (((unitM n).map (scC p n j k)).getD r []).getD q 0 = _
      rw [map_getD (by omega), unitM_getD hr]
      unfold scC
      rw [tab_getD hq, unitRow_getD hq]
      by_cases h : r = j
      · rw [if_pos h, scaleL_getD _ (by rw [(hU.row (by omega)).1]; exact hq), unitM_getD hj, unitRow_getD hq, h]
        by_cases hqj : q = j
        · rw [if_pos hqj]
        · rw [if_neg hqj, if_neg fun e => hqj e.symm, Int.zero_mul, Int.zero_mul]
      · rw [if_neg h, unitM_ent hr hq]
        by_cases hrq : r = q
        · rw [if_pos hrq, if_neg (by omega), Int.mul_one]
          exact Int.emod_eq_of_lt (by omega) (by omega)
        · rw [if_neg hrq, Int.zero_mul, Int.zero_emod]
     rw [e, Cl.set_scale hp _ (by omega) (((hU.row (by omega)).1).trans (zs_len n).symm), set_self _ (by omega)]
 · show (Cl.prod hp (transL m) : Cl p (zs n)) = _
   rw [← Cl.zero_sm (Cl.prod hp (transL m))]
   refine key (scC p n r 0) (scC_lin hp r 0) m m 0 hT hl hT hl (fun i q hi hq => ?_) ?_
   · unfold scC
     rw [tab_getD hi, rowT m hT hl q hq _ hi]
     by_cases h : i = r
     · rw [if_pos h, Int.mul_zero, Int.zero_emod, h]; exact h0 q hq
     · rw [if_neg h, Int.mul_one]
       have := hT.ent hp i q
       exact (Int.emod_eq_of_lt this.1 this.2).symm
   · rw [Cl.zero_sm]
     refine (Alt.prod hp hP).zero _ (map_tab (scC_lin hp r 0) hU) (by rw [List.length_map, hUl]) r hr fun q hq => ?_
     show (((unitM n).map (scC p n r 0)).getD r []).getD q 0 = 0
     rw [map_getD (by omega), unitM_getD hr]
     unfold scC
     rw [tab_getD hq, unitRow_getD hq]
     by_cases h : q = r
     · rw [if_pos h, Int.mul_zero, Int.zero_emod]
     · rw [if_neg h, if_neg fun e => h e.symm, Int.zero_mul, Int.zero_emod]
theorem trans_unit (hp : 2 ≤ p) (hn : 0 < n) : transL (unitM n) = unitM n := by
 have hU := unitM_tab hp n
 have hUl := unitM_len n
 obtain ⟨t1, t2⟩ := trans_ok (p := p) (by omega) hU hUl hn
 refine mat_ext t1 hU (by rw [t2, hUl]) fun i q hi hq => ?_
 rw [t2] at hi
 rw [trans_at hU hUl hn hi hq, unitM_ent hq hi, unitM_ent hi hq]
 grind
/-- The determinant of the transposed matrix. -/
theorem det_trans (hP : isP p = true) {m : List (List Int)} (hT : Tab p n m) (hl : m.length = n) (hn : 0 < n) : detL p (transL m) = detL p m := by
 have h3 := isP_ge hP
 have hp : 0 < p := by omega
 obtain ⟨t1, t2⟩ := trans_ok hp hT hl hn
 have h1 : (Cl.prod hp (transL m) : Cl p (zs n)) = detL p m * Cl.prod hp (transL (unitM n)) := (Alt.trans hp hP hn).all hP hT hl hn
 rw [trans_unit (p := p) (by omega) hn, prod_det hp hP t1 t2] at h1
 have h2 := det_uniq hp (by omega) h1
 have b1 := detL_small (p := p) (by omega) (transL m)
 have b2 := detL_small (p := p) (by omega) m
 rwa [Int.emod_eq_of_lt b1.1 b1.2, Int.emod_eq_of_lt b2.1 b2.2] at h2
theorem det_unit (hP : isP p = true) : detL p (unitM n) = 1 := by
 have h3 := isP_ge hP
 have hp : 0 < p := by omega
 have h := prod_det (n := n) hp hP (unitM_tab (by omega) n) (unitM_len n)
 have h2 := det_uniq (a := 1) (b := detL p (unitM n)) hp (by omega) (by rw [Cl.one_sm]; exact h)
 have b := detL_small (p := p) (by omega) (unitM n)
 rw [Int.emod_eq_of_lt b.1 b.2, Int.emod_eq_of_lt (by omega) (by omega)] at h2
 exact h2.symm
end
/-- Matrices with n rows and columns of numbers. -/
structure Mt (p : Int) (n : Nat) where
 l : List (List Int)
 len : l.length = n
 tab : Tab p n l
 pos : 0 < p
section
variable {p : Int} {n : Nat}
def Mt.at (x : Mt p n) (i j : Nat) : Int := ent x.l i j
theorem Mt.ext {x y : Mt p n} (h : x.l = y.l) : x = y := by
 cases x; cases y; simp only at h; subst h; rfl
theorem Mt.small (x : Mt p n) (i j : Nat) : 0 ≤ x.at i j ∧ x.at i j < p := x.tab.ent x.pos i j
theorem Mt.same {x y : Mt p n} (h : ∀ i j, i < n → j < n → x.at i j % p = y.at i j % p) : x = y := Mt.ext (mat_ext x.tab y.tab (x.len.trans y.len.symm) fun i q hi hq => by
 rw [x.len] at hi
 exact cg_eq (x.small i q) (y.small i q) (h i q hi hq))
def Mt.of (hp : 0 < p) (f : Nat → Nat → Int) : Mt p n := ⟨Go.Proofs.YtmkjdpnoloofjaaGreat.tab n fun i => Go.Proofs.YtmkjdpnoloofjaaGreat.tab n fun j => f i j % p, tab_len _ _, Tab.tab fun i _ => ⟨tab_len _ _, NumsL.tab fun j _ => ⟨Int.emod_nonneg _ (by omega), Int.emod_lt_of_pos _ hp⟩⟩, hp⟩
theorem Mt.of_at (hp : 0 < p) (f : Nat → Nat → Int) {i j : Nat} (hi : i < n) (hj : j < n) : (Mt.of hp f : Mt p n).at i j = f i j % p := by
 show ((Go.Proofs.YtmkjdpnoloofjaaGreat.tab n fun i => Go.Proofs.YtmkjdpnoloofjaaGreat.tab n fun j => f i j % p).getD i []).getD j 0 = _
 rw [tab_getD hi, tab_getD hj]
theorem Mt.of_cg (hp : 0 < p) (f : Nat → Nat → Int) {i j : Nat} (hi : i < n) (hj : j < n) : (Mt.of hp f : Mt p n).at i j % p = f i j % p := by rw [Mt.of_at hp f hi hj, cg_self]
instance : Mul (Mt p n) := ⟨fun x y => Mt.of x.pos fun i j => sumTo n fun k => x.at i k * y.at k j⟩
instance : Add (Mt p n) := ⟨fun x y => Mt.of x.pos fun i j => x.at i j + y.at i j⟩
instance : HMul Int (Mt p n) (Mt p n) := ⟨fun k x => Mt.of x.pos fun i j => k * x.at i j⟩
def Mt.one (hp : 0 < p) : Mt p n := Mt.of hp fun i j => if i = j then 1 else 0
def Mt.tr (x : Mt p n) : Mt p n := Mt.of x.pos fun i j => x.at j i
theorem Mt.mul_at (x y : Mt p n) {i j : Nat} (hi : i < n) (hj : j < n) : (x * y).at i j % p = (sumTo n fun k => x.at i k * y.at k j) % p := Mt.of_cg x.pos _ hi hj
theorem Mt.add_at (x y : Mt p n) {i j : Nat} (hi : i < n) (hj : j < n) : (x + y).at i j % p = (x.at i j + y.at i j) % p := Mt.of_cg x.pos _ hi hj
theorem Mt.sm_at (k : Int) (x : Mt p n) {i j : Nat} (hi : i < n) (hj : j < n) : (k * x).at i j % p = (k * x.at i j) % p := Mt.of_cg x.pos (fun i j => k * x.at i j) hi hj
theorem Mt.one_at (hp : 0 < p) {i j : Nat} (hi : i < n) (hj : j < n) : (Mt.one hp : Mt p n).at i j % p = (if i = j then 1 else 0) % p := Mt.of_cg hp _ hi hj
theorem Mt.tr_at (x : Mt p n) {i j : Nat} (hi : i < n) (hj : j < n) : x.tr.at i j % p = x.at j i % p := Mt.of_cg x.pos (fun i j => x.at j i) hi hj
theorem Mt.mul_assoc (x y z : Mt p n) : x * y * z = x * (y * z) := Mt.same fun i j hi hj => by
 rw [Mt.mul_at _ _ hi hj, Mt.mul_at _ _ hi hj]
 have h1 : (sumTo n fun k => (x * y).at i k * z.at k j) % p = (sumTo n fun k => sumTo n fun r => x.at i r * y.at r k * z.at k j) % p := sumTo_mod p fun k hk => by
  rw [cg_mul (Mt.mul_at x y hi hk) rfl, ← sumTo_mul_right]
 have h2 : (sumTo n fun r => x.at i r * (y * z).at r j) % p = (sumTo n fun r => sumTo n fun k => x.at i r * y.at r k * z.at k j) % p := sumTo_mod p fun r hr => by
  rw [cg_mul (rfl : x.at i r % p = x.at i r % p) (Mt.mul_at y z hr hj), ← sumTo_mul]
  congr 1
  exact sumTo_congr fun k _ => (Int.mul_assoc _ _ _).symm
 rw [h1, h2, sumTo_comm]
theorem Mt.add_mul (x y z : Mt p n) : (x + y) * z = x * z + y * z := Mt.same fun i j hi hj => by
 rw [Mt.mul_at _ _ hi hj, Mt.add_at _ _ hi hj, cg_add (Mt.mul_at x z hi hj) (Mt.mul_at y z hi hj), ← sumTo_add]
 refine sumTo_mod p fun k hk => ?_
 rw [cg_mul (Mt.add_at x y hi hk) rfl, Int.add_mul]
theorem Mt.mul_add (x y z : Mt p n) : x * (y + z) = x * y + x * z := Mt.same fun i j hi hj => by
 rw [Mt.mul_at _ _ hi hj, Mt.add_at _ _ hi hj, cg_add (Mt.mul_at x y hi hj) (Mt.mul_at x z hi hj), ← sumTo_add]
 refine sumTo_mod p fun k hk => ?_
 rw [cg_mul (rfl : x.at i k % p = x.at i k % p) (Mt.add_at y z hk hj), Int.mul_add]
theorem Mt.sm_mul (k : Int) (x y : Mt p n) : (k * x) * y = k * (x * y) := Mt.same fun i j hi hj => by
 rw [Mt.mul_at _ _ hi hj, Mt.sm_at _ _ hi hj, cg_mul (rfl : k % p = k % p) (Mt.mul_at x y hi hj), ← sumTo_mul]
 refine sumTo_mod p fun r hr => ?_
 rw [cg_mul (Mt.sm_at k x hi hr) rfl, Int.mul_assoc]
theorem Mt.mul_sm (k : Int) (x y : Mt p n) : x * (k * y) = k * (x * y) := Mt.same fun i j hi hj => by
 rw [Mt.mul_at _ _ hi hj, Mt.sm_at _ _ hi hj, cg_mul (rfl : k % p = k % p) (Mt.mul_at x y hi hj), ← sumTo_mul]
 refine sumTo_mod p fun r hr => ?_
 rw [cg_mul (rfl : x.at i r % p = x.at i r % p) (Mt.sm_at k y hr hj)]
 congr 1; grind
theorem Mt.one_mul (hp : 0 < p) (x : Mt p n) : Mt.one hp * x = x := Mt.same fun i j hi hj => by
 rw [Mt.mul_at _ _ hi hj]
 have h : (sumTo n fun k => (Mt.one hp : Mt p n).at i k * x.at k j) % p = (sumTo n fun k => (if i = k then 1 else 0) * x.at k j) % p := sumTo_mod p fun k hk => cg_mul (Mt.one_at hp hi hk) rfl
 rw [h, sumTo_one i hi fun k _ hne => by rw [if_neg fun e => hne e.symm, Int.zero_mul], if_pos rfl, Int.one_mul]
theorem Mt.mul_one (hp : 0 < p) (x : Mt p n) : x * Mt.one hp = x := Mt.same fun i j hi hj => by
 rw [Mt.mul_at _ _ hi hj]
 have h : (sumTo n fun k => x.at i k * (Mt.one hp : Mt p n).at k j) % p = (sumTo n fun k => x.at i k * (if k = j then 1 else 0)) % p := sumTo_mod p fun k hk => cg_mul rfl (Mt.one_at hp hk hj)
 rw [h, sumTo_one j hj fun k _ hne => by rw [if_neg hne, Int.mul_zero], if_pos rfl, Int.mul_one]
theorem Mt.add_comm (x y : Mt p n) : x + y = y + x := Mt.same fun i j hi hj => by rw [Mt.add_at _ _ hi hj, Mt.add_at _ _ hi hj, Int.add_comm]
theorem Mt.add_assoc (x y z : Mt p n) : x + y + z = x + (y + z) := Mt.same fun i j hi hj => by
 rw [Mt.add_at _ _ hi hj, Mt.add_at _ _ hi hj, cg_add (Mt.add_at x y hi hj) rfl, cg_add (rfl : x.at i j % p = x.at i j % p) (Mt.add_at y z hi hj), Int.add_assoc]
theorem Mt.sm_sm (k j : Int) (x : Mt p n) : k * (j * x) = (k * j) * x := Mt.same fun i r hi hr => by
 rw [Mt.sm_at _ _ hi hr, Mt.sm_at _ _ hi hr, cg_mul (rfl : k % p = k % p) (Mt.sm_at j x hi hr), Int.mul_assoc]
theorem Mt.one_sm (x : Mt p n) : (1 : Int) * x = x := Mt.same fun i j hi hj => by rw [Mt.sm_at _ _ hi hj, Int.one_mul]
theorem Mt.sm_cg {k j : Int} (h : k % p = j % p) (x : Mt p n) : k * x = j * x := Mt.same fun i r hi hr => by
 rw [Mt.sm_at _ _ hi hr, Mt.sm_at _ _ hi hr, cg_mul h rfl]
theorem Mt.tr_tr (x : Mt p n) : x.tr.tr = x := Mt.same fun i j hi hj => by rw [Mt.tr_at _ hi hj, Mt.tr_at _ hj hi]
theorem Mt.tr_mul (x y : Mt p n) : (x * y).tr = y.tr * x.tr := Mt.same fun i j hi hj => by
 rw [Mt.tr_at _ hi hj, Mt.mul_at _ _ hj hi, Mt.mul_at _ _ hi hj]
 refine (sumTo_mod p fun k hk => ?_).symm
 rw [cg_mul (Mt.tr_at y hi hk) (Mt.tr_at x hk hj), Int.mul_comm]
theorem Mt.tr_add (x y : Mt p n) : (x + y).tr = x.tr + y.tr := Mt.same fun i j hi hj => by
 rw [Mt.tr_at _ hi hj, Mt.add_at _ _ hj hi, Mt.add_at _ _ hi hj, cg_add (Mt.tr_at x hi hj) (Mt.tr_at y hi hj)]
theorem Mt.tr_sm (k : Int) (x : Mt p n) : (k * x).tr = k * x.tr := Mt.same fun i j hi hj => by
 rw [Mt.tr_at _ hi hj, Mt.sm_at _ _ hj hi, Mt.sm_at _ _ hi hj, cg_mul (rfl : k % p = k % p) (Mt.tr_at x hi hj)]
theorem Mt.tr_one (hp : 0 < p) : (Mt.one hp : Mt p n).tr = Mt.one hp := Mt.same fun i j hi hj => by
 rw [Mt.tr_at _ hi hj, Mt.one_at hp hj hi, Mt.one_at hp hi hj]
 by_cases h : i = j
 · rw [if_pos h, if_pos h.symm]
 · rw [if_neg h, if_neg fun e => h e.symm]
theorem Mt.mul_l (x y : Mt p n) (hn : 0 < n) : (x * y).l = timesM p x.l y.l := by
 have hT : Tab p n (timesM p x.l y.l) := by
  refine Tab.tab fun i hi => ?_
  exact ⟨by rw [applyL_len, transL_len y.tab (by rw [y.len]; exact hn)], applyL_nums x.pos _ _⟩
 refine mat_ext (x * y).tab hT (by rw [(x * y).len]; unfold timesM; rw [tab_len, x.len]) fun i q hi hq => ?_
 rw [(x * y).len] at hi
 have e : ent (timesM p x.l y.l) i q = (applyL p (transL y.l) (x.l.getD i [])).getD q 0 := by
  unfold ent timesM
  rw [tab_getD (by rw [x.len]; exact hi)]
 rw [e, apply_at y.tab (by rw [y.len]; exact hn) _ hq, y.len]
 show (x * y).at i q = _
 have h := Mt.mul_at x y hi hq
 rw [Int.emod_eq_of_lt ((x * y).small i q).1 ((x * y).small i q).2] at h
 rw [h]
 congr 1
 exact sumTo_congr fun k _ => Int.mul_comm _ _
theorem Mt.one_l (hp : 2 ≤ p) : (Mt.one (by omega) : Mt p n).l = unitM n := mat_ext (Mt.one (p := p) (n := n) (by omega)).tab (unitM_tab hp n) (by rw [Mt.len, unitM_len]) fun i q hi hq => by
 rw [Mt.len] at hi
 rw [unitM_ent hi hq]
 show (Mt.one (by omega) : Mt p n).at i q = _
 have h := Mt.one_at (p := p) (n := n) (by omega) hi hq
 rw [Int.emod_eq_of_lt (Mt.small _ i q).1 (Mt.small _ i q).2] at h
 rw [h]
 split
 · exact Int.emod_eq_of_lt (by omega) (by omega)
 · exact Int.zero_emod p
theorem Mt.tr_l (x : Mt p n) (hn : 0 < n) : x.tr.l = transL x.l := by
 obtain ⟨t1, t2⟩ := trans_ok x.pos x.tab x.len hn
 refine mat_ext x.tr.tab t1 (by rw [Mt.len, t2]) fun i q hi hq => ?_
 rw [Mt.len] at hi
 rw [trans_at x.tab x.len hn hi hq]
 show x.tr.at i q = x.at q i
 exact cg_eq (x.tr.small i q) (x.small q i) (Mt.tr_at x hi hq)
def Mt.det (x : Mt p n) : Int := detL p x.l
theorem Mt.det_small (hp : 2 ≤ p) (x : Mt p n) : 0 ≤ x.det ∧ x.det < p := detL_small hp _
theorem Mt.det_mul (hP : isP p = true) (hn : 0 < n) (x y : Mt p n) : (x * y).det % p = (x.det * y.det) % p := by
 unfold Mt.det
 rw [Mt.mul_l x y hn]
 exact det_times hP x.tab x.len y.tab y.len hn
theorem Mt.det_tr (hP : isP p = true) (hn : 0 < n) (x : Mt p n) : x.tr.det = x.det := by
 unfold Mt.det
 rw [Mt.tr_l x hn]
 exact det_trans hP x.tab x.len hn
theorem Mt.det_one (hP : isP p = true) (hp : 0 < p) : (Mt.one hp : Mt p n).det = 1 := by
 have h3 := isP_ge hP
 unfold Mt.det
 rw [Mt.one_l (by omega)]
 exact det_unit hP
/-- The rows of a matrix with a determinant other than 0 are independent. -/
theorem det_ind (hP : isP p = true) (hn : 0 < n) {a : List (List Int)} (hT : Tab p n a) (hl : a.length = n) (hd : detL p a ≠ 0) : Ind p n a := fun c hc i hi => by
 have h3 := isP_ge hP
 have hp : 0 < p := by omega
 have hb : (basisL p a).length = n := by
  rcases Cl.prod_basis hp hP hT with h | ⟨h, -⟩
  · exfalso
    have h1 := prod_det hp hP hT hl
    rw [h] at h1
    have h2 := det_uniq (a := detL p a) (b := 0) hp (by omega) (by rw [← h1, Cl.zero_sm])
    have b := detL_small (p := p) (by omega) a
    rw [Int.emod_eq_of_lt b.1 b.2, Int.zero_emod] at h2
    exact hd h2
  · rw [h, hl]
 obtain ⟨t1, t2⟩ := trans_ok hp hT hl hn
 have hk := kernL_dim hP t1
 rw [rank_trans hP hT (by omega) hn, hb] at hk
 have hnil : kernL p (transL a) n = [] := List.eq_nil_of_length_eq_zero (by omega)
 have hsp : Sp p n (kernL p (transL a) n) c := by
  rw [kernL_sp hP t1]
  intro q hq
  rw [t2] at hq
  have h9 := hc q hq
  rw [hl] at h9
  rw [← h9]
  congr 1
  refine sumTo_congr fun k hk => ?_
  rw [trans_at hT hl hn hq hk, Int.mul_comm]
 rw [hnil] at hsp
 exact hsp.nil i (by omega)
theorem Mt.ne_det {x : Mt p n} (hP : isP p = true) (h : x.det % p ≠ 0) : detL p x.l ≠ 0 := fun e => h (by unfold Mt.det; rw [e, Int.zero_emod])
/-- A matrix with a determinant other than 0 can be cancelled. -/
theorem Mt.cancel_r (hP : isP p = true) (hn : 0 < n) {x y z : Mt p n} (h : x.det % p ≠ 0) (e : y * x = z * x) : y = z := Mt.same fun i j hi hj => by
 have hI := det_ind hP hn x.tab x.len (Mt.ne_det hP h)
 have h1 := hI (fun k => y.at i k - z.at i k) (fun q hq => by
  rw [x.len]
  have e1 : (y * x).at i q % p = (z * x).at i q % p := by rw [e]
  rw [Mt.mul_at _ _ hi hq, Mt.mul_at _ _ hi hq] at e1
  have e2 : (sumTo n fun k => (y.at i k - z.at i k) * ent x.l k q) = (sumTo n fun k => y.at i k * x.at k q) + -1 * sumTo n fun k => z.at i k * x.at k q := by
   rw [← sumTo_mul, ← sumTo_add]
   exact sumTo_congr fun k _ => by show _ * x.at k q = _; grind
  rw [e2, cg_add e1 (rfl : (-1 * sumTo n fun k => z.at i k * x.at k q) % p = _)]
  have e3 : ∀ S : Int, S + -1 * S = 0 := fun S => by omega
  rw [e3, Int.zero_emod]) j (by rw [x.len]; exact hj)
 obtain ⟨t, ht⟩ := cg_wit.1 (h1.trans (Int.zero_emod p).symm)
 exact cg_wit.2 ⟨t, by omega⟩
theorem Mt.cancel_l (hP : isP p = true) (hn : 0 < n) {x y z : Mt p n} (h : x.det % p ≠ 0) (e : x * y = x * z) : y = z := by
 have h1 : y.tr * x.tr = z.tr * x.tr := by rw [← Mt.tr_mul, ← Mt.tr_mul, e]
 have h2 := Mt.cancel_r hP hn (x := x.tr) (by rw [Mt.det_tr hP hn]; exact h) h1
 rw [← Mt.tr_tr y, h2, Mt.tr_tr]
end
section
variable {p : Int} {n : Nat}
instance : Std.Associative (α := Mt p n) (· + ·) := ⟨Mt.add_assoc⟩
instance : Std.Commutative (α := Mt p n) (· + ·) := ⟨Mt.add_comm⟩
theorem half_two' (hP : isP p = true) : 2 * invF p 2 % p = 1 % p := by
 have h3 := isP_ge hP
 exact inv_one hP (a := 2) (by omega) (by decide)
theorem Mt.sum2 (x y : Mt p n) : (x + y) + (x + (-1 : Int) * y) = (2 : Int) * x := Mt.same fun i j hi hj => by
 rw [Mt.add_at _ _ hi hj, cg_add (Mt.add_at x y hi hj) ((Mt.add_at x _ hi hj).trans (cg_add rfl (Mt.sm_at (-1) y hi hj))), Mt.sm_at _ _ hi hj]
 congr 1; omega
theorem Mt.dif2 (x y : Mt p n) : (x + y) + (-1 : Int) * (x + (-1 : Int) * y) = (2 : Int) * y := Mt.same fun i j hi hj => by
 rw [Mt.add_at _ _ hi hj, cg_add (Mt.add_at x y hi hj) ((Mt.sm_at (-1) _ hi hj).trans (cg_mul rfl ((Mt.add_at x _ hi hj).trans (cg_add rfl (Mt.sm_at (-1) y hi hj))))), Mt.sm_at _ _ hi hj]
 congr 1; omega
/-- Plus and minus. -/
def Mt.plus (hp : 0 < p) (a : Mt p n) : Mt p n := Mt.one hp + a
def Mt.minus (hp : 0 < p) (a : Mt p n) : Mt p n := Mt.one hp + (-1 : Int) * a
theorem Mt.pm_comm (hp : 0 < p) (a : Mt p n) : Mt.plus hp a * Mt.minus hp a = Mt.minus hp a * Mt.plus hp a := by
 unfold Mt.plus Mt.minus
 rw [Mt.add_mul, Mt.mul_add, Mt.mul_add, Mt.one_mul, Mt.one_mul, Mt.mul_one, Mt.add_mul, Mt.mul_add, Mt.mul_add, Mt.one_mul, Mt.one_mul, Mt.mul_one, Mt.mul_sm, Mt.sm_mul]
 ac_rfl
theorem Mt.det_two (hP : isP p = true) (hp : 0 < p) (hn : 0 < n) {x y : Mt p n} (h : x * y = (2 : Int) * Mt.one hp) : x.det % p ≠ 0 ∧ y.det % p ≠ 0 := by
 have h3 := isP_ge hP
 have e : x * (invF p 2 * y) = Mt.one hp := by
  rw [Mt.mul_sm, h, Mt.sm_sm, Mt.sm_cg (j := 1) (by rw [Int.mul_comm]; exact half_two' hP), Mt.one_sm]
 have e2 : (invF p 2 * x) * y = Mt.one hp := by
  rw [Mt.sm_mul, h, Mt.sm_sm, Mt.sm_cg (j := 1) (by rw [Int.mul_comm]; exact half_two' hP), Mt.one_sm]
 have one_ne : (1 : Int) % p ≠ 0 := by rw [Int.emod_eq_of_lt (by omega) (by omega)]; decide
 constructor
 · intro h0
   have h1 := Mt.det_mul hP hn x (invF p 2 * y)
   rw [e, Mt.det_one hP] at h1
   rw [Int.mul_emod, h0, Int.zero_mul, Int.zero_emod] at h1
   exact one_ne h1
 · intro h0
   have h1 := Mt.det_mul hP hn (invF p 2 * x) y
   rw [e2, Mt.det_one hP] at h1
   rw [Int.mul_emod, h0, Int.mul_zero, Int.zero_emod] at h1
   exact one_ne h1
/-- The transform of a skew matrix. -/
theorem cay_skew (hP : isP p = true) (hp : 0 < p) (hn : 0 < n) {W a g : Mt p n} (hWt : W.tr = W) (hW : W.det % p ≠ 0) (hS : W * a = (-1 : Int) * (a.tr * W)) (hD : (Mt.plus hp a).det % p ≠ 0) (hg : Mt.plus hp a * g = Mt.minus hp a) :
    g.tr * W * g = W ∧ g.det = 1 ∧ (Mt.plus hp g).det % p ≠ 0 ∧ Mt.plus hp g * a = Mt.minus hp g := by
 have h3 := isP_ge hP
 obtain ⟨D, hDe⟩ : ∃ D, D = Mt.plus hp a := ⟨_, rfl⟩
 obtain ⟨N, hNe⟩ : ∃ N, N = Mt.minus hp a := ⟨_, rfl⟩
 have hDt : D.tr = Mt.one hp + a.tr := by rw [hDe]; unfold Mt.plus; rw [Mt.tr_add, Mt.tr_one]
 have hNt : N.tr = Mt.one hp + (-1 : Int) * a.tr := by rw [hNe]; unfold Mt.minus; rw [Mt.tr_add, Mt.tr_one, Mt.tr_sm]
 have hcom : D * N = N * D := by rw [hDe, hNe]; exact Mt.pm_comm hp a
 have hWD : W * D = N.tr * W := by
  rw [hNt, Mt.add_mul, Mt.one_mul, Mt.sm_mul, hDe]; unfold Mt.plus; rw [Mt.mul_add, Mt.mul_one, hS]
 have hWN : W * N = D.tr * W := by
  rw [hDt, Mt.add_mul, Mt.one_mul, hNe]; unfold Mt.minus; rw [Mt.mul_add, Mt.mul_one, Mt.mul_sm, hS, Mt.sm_sm, show (-1 : Int) * -1 = 1 from rfl, Mt.one_sm]
 rw [← hDe] at hD hg
 rw [← hNe] at hg
 have hgD : g * D = N := Mt.cancel_l hP hn hD (by rw [← Mt.mul_assoc, hg, hcom])
 have hDtd : D.tr.det % p ≠ 0 := by rw [Mt.det_tr hP hn]; exact hD
 have hsum : D + N = (2 : Int) * Mt.one hp := by rw [hDe, hNe]; exact Mt.sum2 _ _
 have hdif : D + (-1 : Int) * N = (2 : Int) * a := by rw [hDe, hNe]; exact Mt.dif2 _ _
 have hpl : D * Mt.plus hp g = (2 : Int) * Mt.one hp := by unfold Mt.plus; rw [Mt.mul_add, Mt.mul_one, hg, hsum]
 refine ⟨Mt.cancel_l hP hn hDtd (Mt.cancel_r hP hn hD ?_), ?_, (Mt.det_two hP hp hn hpl).2, Mt.cancel_l hP hn hD ?_⟩
 · have e1 : D.tr * (g.tr * W * g) * D = (g * D).tr * W * (g * D) := by rw [Mt.tr_mul]; simp only [Mt.mul_assoc]
   rw [e1, hgD, ← hWD, Mt.mul_assoc, hcom, ← Mt.mul_assoc, hWN]
 · have e1 := Mt.det_mul hP hn W N
   rw [hWN, Mt.det_mul hP hn, Mt.det_tr hP hn] at e1
   have e2 := Mt.det_mul hP hn D g
   rw [hg] at e2
   have hs := Mt.det_small (p := p) (by omega) g
   -- W N = D W, D g = N
   obtain ⟨w, hw⟩ : ∃ w, w = W.det := ⟨_, rfl⟩
   obtain ⟨d, hd⟩ : ∃ d, d = D.det := ⟨_, rfl⟩
   obtain ⟨x, hx⟩ : ∃ x, x = g.det := ⟨_, rfl⟩
   rw [← hw, ← hd] at e1
   rw [← hd, ← hx] at e2
   rw [← hw] at hW
   rw [← hd] at hD
   rw [← hx] at hs ⊢
   have e3 : (w * d * (x - 1)) % p = 0 := by
    have e4 : (w * N.det) % p = (w * (d * x)) % p := cg_mul rfl e2
    rw [← e1] at e4
    obtain ⟨t, ht⟩ := cg_wit.1 e4.symm
    exact (cg_wit.2 ⟨t, by grind⟩).trans (Int.zero_emod p)
   have e5 : (x - 1) % p = 0 := Classical.byContradiction fun h => mul_ne hP (mul_ne hP hW hD) h e3
   obtain ⟨t, ht⟩ := cg_wit.1 (e5.trans (Int.zero_emod p).symm)
   have e6 : x % p = 1 % p := cg_wit.2 ⟨t, by omega⟩
   rw [Int.emod_eq_of_lt hs.1 hs.2, Int.emod_eq_of_lt (by omega) (by omega)] at e6
   exact e6
 · rw [← Mt.mul_assoc, hpl, Mt.sm_mul, Mt.one_mul]
   unfold Mt.minus
   rw [Mt.mul_add, Mt.mul_one, Mt.mul_sm, hg, hdif]
end
end Go.Proofs.YtmkjdpnoloofjaaGreat

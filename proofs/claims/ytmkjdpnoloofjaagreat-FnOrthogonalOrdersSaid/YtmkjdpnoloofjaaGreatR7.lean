/-
  LawFnOrthogonalOrders: part 7 of the texts that the proof needs. No condition.
-/
import Derived.Test.YtmkjdpnoloofjaaGreatR6
namespace Go.Proofs.YtmkjdpnoloofjaaGreat
section
variable {p : Int} {sq : List Int}
theorem cg_wit {p a b : Int} : a % p = b % p ↔ ∃ k, a = b + p * k := by
 constructor
 · intro h
   have h1 := Int.emod_add_mul_ediv a p
   have h2 := Int.emod_add_mul_ediv b p
   exact ⟨a / p - b / p, by grind⟩
 · rintro ⟨k, rfl⟩
   rw [Int.add_mul_emod_self_left]
theorem versL_prod (hp : 0 < p) (h2 : 2 ≤ p) (vs : List (List Int)) (hvs : ∀ v ∈ vs, NumsL p v) : versL p sq sq.length vs = (Cl.prod hp vs : Cl p sq).l := by
 unfold versL Cl.prod
 have key : ∀ (y : Cl p sq), vs.foldl (fun o v => mulL p sq o (vecTo sq.length v sq.length)) y.l = (vs.foldl (fun x v => x * Cl.vec hp v) y).l := by
  induction vs with
  | nil => intro y; rfl
  | cons v vs ih =>
   intro y
   rw [List.foldl_cons, List.foldl_cons, ← ih (fun u hu => hvs u (List.mem_cons_of_mem _ hu)), Cl.mul_l, Cl.vec_l hp (hvs v (List.mem_cons_self ..))]
 rw [← key, Cl.one_l h2]
theorem bil_same (hP : isP p = true) {v : List Int} (hl : v.length = sq.length) : pairL p sq v v = 0 ↔ bil sq v v % p = 0 := by
 have h1 := pairL_bil (p := p) (u := v) hl
 have h3 := (isP_ge hP).1
 have h2 := pairL_small (P := p) (by omega) sq v v
 rw [Int.emod_eq_of_lt h2.1 h2.2] at h1
 rw [h1]
/-- The sandwich of a product of vectors. -/
theorem sand_prod (hP : isP p = true) (h6 : sq.length ≤ 6) (vs : List (List Int)) (hvs : ∀ v ∈ vs, v.length = sq.length ∧ NumsL p v ∧ bil sq v v % p ≠ 0) {w : List Int} (hw : w.length = sq.length) (hwn : NumsL p w) :
    sandL p sq sq.length (versL p sq sq.length vs) w = refls p sq vs w := by
 have h3 := (isP_ge hP).1
 have hp : 0 < p := by omega
 have hne : ∀ v ∈ vs, bil sq v v % p ≠ 0 := fun v hv => (hvs v hv).2.2
 obtain ⟨-, hn⟩ := Cl.prod_vers hP hp h6 vs hne
 have hact := Cl.prod_acts hp hP h6 vs hne hw
 have hnn := nrmP_ne hP vs hne
 rw [versL_prod hp (by omega) vs fun v hv => (hvs v hv).2.1]
 obtain ⟨x, hx⟩ : ∃ x : Cl p sq, x = Cl.prod hp vs := ⟨_, rfl⟩
 rw [← hx] at hn hact ⊢
 unfold sandL vinvL
 rw [hn, ← Cl.rev_l, ← Cl.sm_l, ← Cl.invo_l, ← Cl.vec_l hp hwn, ← Cl.mul_l, ← Cl.mul_l, Cl.mul_sm, hact, Cl.sm_sm]
 have h1 : (invF p (nrmP sq vs % p) * nrmP sq vs) % p = (1 : Int) % p := by
  rw [Int.mul_comm, inv_mod hP hnn, Int.emod_eq_of_lt (by omega) (by omega)]
 rw [Cl.sm_cg h1, Cl.one_sm, Cl.vec_at hp (refls_nums hp vs hwn) ((refls_len vs w).trans hw)]
theorem getD_plus {x y : List Int} {k : Int} {i : Nat} (hi : i < x.length) : (plusL p x y k).getD i 0 = (x.getD i 0 + k * y.getD i 0) % p := by
 unfold plusL
 rw [tab_getD hi]
theorem refl_half (hP : isP p = true) {a q : Int} (ha : a % p ≠ 0) (hq : 2 * q % p = (-a) % p) : (-(2 * q * invF p (a % p))) % p = 1 % p := by
 have h3 := (isP_ge hP).1
 have h1 : a * invF p (a % p) % p = 1 % p := by rw [inv_mod hP ha, Int.emod_eq_of_lt (by omega) (by omega)]
 obtain ⟨k, hk⟩ := cg_wit.1 h1
 obtain ⟨l, hl⟩ := cg_wit.1 hq
 exact cg_wit.2 ⟨k - l * invF p (a % p), by grind⟩
/-- The versor between two vectors of the same norm leads the one to the other. -/
theorem vb_refls (hP : isP p = true) {u v : List Int} (hu : u.length = sq.length) (hun : NumsL p u) (hv : v.length = sq.length) (hvn : NumsL p v) (hq : bil sq u u % p = bil sq v v % p) (h0 : bil sq u u % p ≠ 0) :
    (bil sq (plusL p v u (-1)) (plusL p v u (-1)) % p ≠ 0 → refls p sq [plusL p v u (-1)] u = v) ∧
    (bil sq (plusL p v u (-1)) (plusL p v u (-1)) % p = 0 → bil sq (plusL p v u 1) (plusL p v u 1) % p ≠ 0 ∧ refls p sq [v, plusL p v u 1] u = v) := by
 have h3 := (isP_ge hP).1
 have hp : 0 < p := by omega
 have hdl : ∀ k, (plusL p v u k).length = sq.length := fun k => (plusL_len _ _ _ _).trans hv
 -- products with the sums
 have b1 : ∀ k w, bil sq (plusL p v u k) w % p = (bil sq v w + k * bil sq u w) % p := fun k w => bil_plus hv k
 have b2 : ∀ k, bil sq (plusL p v u k) (plusL p v u k) % p = (bil sq v v + 2 * k * bil sq u v + k * k * bil sq u u) % p := fun k => by
  have e1 := b1 k (plusL p v u k)
  have e2 := b1 k v
  have e3 := b1 k u
  rw [bil_symm sq v, bil_symm sq u] at e1
  rw [bil_symm sq v u] at e3
  obtain ⟨r1, e1⟩ := cg_wit.1 e1
  obtain ⟨r2, e2⟩ := cg_wit.1 e2
  obtain ⟨r3, e3⟩ := cg_wit.1 e3
  exact cg_wit.2 ⟨r1 + r2 + k * r3, by grind⟩
 obtain ⟨rq, eq⟩ := cg_wit.1 hq
 refine ⟨fun hD => ?_, fun hD => ?_⟩
 · have hq2 : 2 * bil sq (plusL p v u (-1)) u % p = (-bil sq (plusL p v u (-1)) (plusL p v u (-1))) % p := by
    obtain ⟨r1, e1⟩ := cg_wit.1 (b1 (-1) u)
    obtain ⟨r2, e2⟩ := cg_wit.1 (b2 (-1))
    rw [bil_symm sq v u] at e1
    exact cg_wit.2 ⟨2 * r1 + r2 - rq, by grind⟩
   have hc := refl_half hP hD hq2
   show reflF p sq (plusL p v u (-1)) u = v
   unfold reflF
   rw [plusL_mod p u _ hc]
   refine list_ext_getD 0 (by rw [plusL_len, hu, hv]) fun i hi => ?_
   rw [plusL_len] at hi
   rw [getD_plus hi, getD_plus (by omega)]
   obtain ⟨v1, v2⟩ := hvn.getD hp i
   refine cg_eq ⟨Int.emod_nonneg _ (by omega), Int.emod_lt_of_pos _ hp⟩ ⟨v1, v2⟩ ?_
   rw [cg_self, Int.one_mul, Int.add_emod, cg_self, ← Int.add_emod]
   congr 1
   omega
 · obtain ⟨r2, e2⟩ := cg_wit.1 (b2 (-1))
   obtain ⟨r3, e3⟩ := cg_wit.1 (b2 1)
   obtain ⟨r4, e4⟩ := cg_wit.1 (hD.trans (Int.zero_emod p).symm)
   have hh := half_ok hP
   obtain ⟨rh, eh⟩ := cg_wit.1 hh
   -- (u, v) is the norm
   have hb : bil sq u v % p = bil sq u u % p := by
    obtain ⟨h, hh2⟩ : ∃ h, h = (p + 1) / 2 := ⟨_, rfl⟩
    rw [← hh2] at eh
    have e5 : 2 * (bil sq u v - bil sq u u) = p * (r2 - rq - r4) := by grind
    exact cg_wit.2 ⟨h * (r2 - rq - r4) - rh * (bil sq u v - bil sq u u), by grind⟩
   obtain ⟨rb, eb⟩ := cg_wit.1 hb
   have hD1 : bil sq (plusL p v u 1) (plusL p v u 1) % p = 4 * bil sq u u % p := cg_wit.2 ⟨r3 + 2 * rb - rq, by grind⟩
   have hD1n : bil sq (plusL p v u 1) (plusL p v u 1) % p ≠ 0 := by
    rw [hD1]
    refine mul_ne hP ?_ h0
    have h13 := (isP_ge hP).2
    have hodd : isP p = true := hP
    intro h4
    have : p ∣ 4 := Int.dvd_of_emod_eq_zero h4
    have hle := Int.le_of_dvd (by omega) this
    have : p = 3 := by
     simp [isP] at hodd
     omega
    subst this
    exact absurd h4 (by decide)
   refine ⟨hD1n, ?_⟩
   have hq2 : 2 * (-bil sq (plusL p v u 1) u) % p = (-bil sq (plusL p v u 1) (plusL p v u 1)) % p := by
    obtain ⟨r1, e1⟩ := cg_wit.1 (b1 1 u)
    rw [bil_symm sq v u] at e1
    obtain ⟨r6, e6⟩ := cg_wit.1 hD1
    exact cg_wit.2 ⟨r6 - 2 * r1 - 2 * rb, by grind⟩
   have hc := refl_half hP hD1n hq2
   have hc1 : (-(2 * bil sq (plusL p v u 1) u * invF p (bil sq (plusL p v u 1) (plusL p v u 1) % p))) % p = (-1) % p := by
    obtain ⟨k, hk⟩ := cg_wit.1 hc
    exact cg_wit.2 ⟨-k, by grind⟩
   have hr1 : reflF p sq (plusL p v u 1) u = plusL p u (plusL p v u 1) (-1) := by
    unfold reflF
    exact plusL_mod p u _ hc1
   obtain ⟨m, hm⟩ : ∃ m, m = plusL p u (plusL p v u 1) (-1) := ⟨_, rfl⟩
   have hml : m.length = sq.length := by rw [hm, plusL_len, hu]
   have hmi : ∀ i, i < sq.length → m.getD i 0 % p = (-(v.getD i 0)) % p := fun i hi => by
    rw [hm, getD_plus (by omega), getD_plus (by omega), cg_self]
    obtain ⟨k, hk⟩ := cg_wit.1 (cg_self p (v.getD i 0 + 1 * u.getD i 0))
    exact cg_wit.2 ⟨-k, by grind⟩
   have hbm : bil sq v m % p = (-(bil sq v v)) % p := by
    unfold bil
    rw [← Int.neg_one_mul, ← sumTo_mul]
    refine sumTo_mod p fun i hi => ?_
    obtain ⟨k, hk⟩ := cg_wit.1 (hmi i hi)
    exact cg_wit.2 ⟨k * v.getD i 0 * sq.getD i 0, by grind⟩
   show reflF p sq v (reflF p sq (plusL p v u 1) u) = v
   rw [hr1, ← hm]
   have hvv : bil sq v v % p ≠ 0 := by rw [← hq]; exact h0
   have hi : bil sq v v * invF p (bil sq v v % p) % p = 1 % p := by rw [inv_mod hP hvv, Int.emod_eq_of_lt (by omega) (by omega)]
   have hc2 : (-(2 * bil sq v m * invF p (bil sq v v % p))) % p = 2 % p := by
    obtain ⟨k, hk⟩ := cg_wit.1 hi
    obtain ⟨l, hl⟩ := cg_wit.1 hbm
    exact cg_wit.2 ⟨2 * k - 2 * l * invF p (bil sq v v % p), by grind⟩
   unfold reflF
   rw [plusL_mod p m _ hc2]
   refine list_ext_getD 0 (by rw [plusL_len, hml, hv]) fun i hi => ?_
   rw [plusL_len] at hi
   rw [getD_plus hi]
   obtain ⟨v1, v2⟩ := hvn.getD hp i
   refine cg_eq ⟨Int.emod_nonneg _ (by omega), Int.emod_lt_of_pos _ hp⟩ ⟨v1, v2⟩ ?_
   rw [cg_self]
   obtain ⟨k, hk⟩ := cg_wit.1 (hmi i (by omega))
   exact cg_wit.2 ⟨k, by grind⟩
/-- Products of vectors are versors: as lists. -/
theorem versL_vers (hP : isP p = true) (h6 : sq.length ≤ 6) (vs : List (List Int)) (hvs : ∀ v ∈ vs, v.length = sq.length ∧ NumsL p v ∧ bil sq v v % p ≠ 0) :
    versB p sq sq.length (versL p sq sq.length vs) = true ∧ nrmL p sq (versL p sq sq.length vs) = nrmP sq vs % p := by
 have h3 := (isP_ge hP).1
 have hp : 0 < p := by omega
 rw [versL_prod hp (by omega) vs fun v hv => (hvs v hv).2.1]
 exact Cl.prod_vers hP hp h6 vs fun v hv => (hvs v hv).2.2
theorem codeVr_mk {x : List Int} (hsp : isSp p sq = true) (hr : regB sq = true) (hx : x.length = pw sq.length) (hxn : NumsL p x) (hv : versB p sq sq.length x = true) : codeM p sq [x] = 0 ∧ codeR p sq [x] = 0 ∧ codeVr p sq x = 0 := by
 have h1 : codeM p sq [x] = 0 := codeM_mk hsp (fun ys hy => by rw [List.mem_singleton.1 hy]; exact ⟨hx, hxn⟩)
 have h2 : codeR p sq [x] = 0 := by unfold codeR; rw [if_pos h1, hr]; rfl
 exact ⟨h1, h2, by unfold codeVr; rw [if_pos h2, hv]; rfl⟩
end
section
variable {p : Int} {sq : List Int}
theorem Cl.prod_append (hp : 0 < p) (a b : List (List Int)) : (Cl.prod hp (a ++ b) : Cl p sq) = Cl.prod hp a * Cl.prod hp b := by
 unfold Cl.prod
 rw [List.foldl_append]
 exact Cl.prod_from hp b _
/-- What a reflection does to products. -/
theorem bil_plus2 {w v : List Int} (hw : w.length = sq.length) (k : Int) : bil sq (plusL p w v k) (plusL p w v k) % p = (bil sq w w + 2 * k * bil sq v w + k * k * bil sq v v) % p := by
 have e1 : bil sq (plusL p w v k) (plusL p w v k) % p = _ := bil_plus hw k
 have e2 : bil sq (plusL p w v k) w % p = _ := bil_plus hw k
 have e3 : bil sq (plusL p w v k) v % p = _ := bil_plus hw k
 rw [bil_symm sq w, bil_symm sq v] at e1
 rw [bil_symm sq w v] at e3
 obtain ⟨r1, e1⟩ := cg_wit.1 e1
 obtain ⟨r2, e2⟩ := cg_wit.1 e2
 obtain ⟨r3, e3⟩ := cg_wit.1 e3
 exact cg_wit.2 ⟨r1 + r2 + k * r3, by grind⟩
theorem refl_refl (hP : isP p = true) {v w : List Int} (hw : w.length = sq.length) (hwn : NumsL p w) (hv : bil sq v v % p ≠ 0) : reflF p sq v (reflF p sq v w) = w := by
 have h3 := (isP_ge hP).1
 have hp : 0 < p := by omega
 have hi : bil sq v v * invF p (bil sq v v % p) % p = 1 % p := by rw [inv_mod hP hv, Int.emod_eq_of_lt (by omega) (by omega)]
 obtain ⟨i, hii⟩ : ∃ i, i = invF p (bil sq v v % p) := ⟨_, rfl⟩
 obtain ⟨k, hk⟩ := cg_wit.1 hi
 have hb : bil sq v (reflF p sq v w) % p = (-bil sq v w) % p := by
  have e : bil sq (reflF p sq v w) v % p = (bil sq w v + -(2 * bil sq v w * i) * bil sq v v) % p := by rw [hii]; exact bil_plus hw _
  rw [bil_symm sq w v] at e
  rw [bil_symm sq v, e]
  rw [← hii] at hk
  exact cg_wit.2 ⟨-(2 * bil sq v w * k), by grind⟩
 obtain ⟨m, hm⟩ : ∃ m, m = reflF p sq v w := ⟨_, rfl⟩
 have hml : m.length = sq.length := by rw [hm]; exact reflF_len.trans hw
 rw [← hm] at hb ⊢
 have hc : (-(2 * bil sq v m * invF p (bil sq v v % p))) % p = (2 * bil sq v w * i) % p := by
  rw [← hii]
  obtain ⟨l, hl⟩ := cg_wit.1 hb
  exact cg_wit.2 ⟨-(2 * l * i), by grind⟩
 unfold reflF
 rw [plusL_mod p m _ hc]
 refine list_ext_getD 0 (by rw [plusL_len, hml, hw]) fun j hj => ?_
 rw [plusL_len] at hj
 rw [getD_plus hj]
 obtain ⟨v1, v2⟩ := hwn.getD hp j
 refine cg_eq ⟨Int.emod_nonneg _ (by omega), Int.emod_lt_of_pos _ hp⟩ ⟨v1, v2⟩ ?_
 have e4 : m.getD j 0 = (w.getD j 0 + -(2 * bil sq v w * i) * v.getD j 0) % p := by rw [hm, hii]; unfold reflF; exact getD_plus (by omega)
 rw [cg_self, e4, Int.add_emod, cg_self, ← Int.add_emod]
 congr 1
 grind
theorem rflL_reflF (hP : isP p = true) {u v : List Int} (hu : u.length = sq.length) : rflL p sq u v = reflF p sq u v := by
 have h3 := (isP_ge hP).1
 have h1 := pairL_bil (p := p) (u := v) hu
 have h2 := pairL_bil (p := p) (u := u) hu
 have hs := pairL_small (P := p) (by omega) sq u u
 rw [Int.emod_eq_of_lt hs.1 hs.2] at h2
 unfold rflL reflF
 rw [h2]
 refine plusL_mod p v u ?_
 obtain ⟨k, hk⟩ := cg_wit.1 h1
 exact cg_wit.2 ⟨-(2 * k * invF p (bil sq u u % p)), by grind⟩
/-- A good list of vectors: of the right length, numbers, norms other than 0. -/
def Good (p : Int) (sq : List Int) (L : List (List Int)) : Prop := ∀ v ∈ L, v.length = sq.length ∧ NumsL p v ∧ bil sq v v % p ≠ 0
theorem Good.nums {L : List (List Int)} (h : Good p sq L) : ∀ v ∈ L, NumsL p v := fun v hv => (h v hv).2.1
end
/-- The columns of the matrix of a reflection, and the matrix. -/
def rcolsL (P : Int) (sq : List Int) (n : Nat) (u : List Int) : List (List Int) := tab n fun k => rflL P sq u (unitRow n k)
def rmatL (P : Int) (sq : List Int) (n : Nat) (u : List Int) : List (List Int) := transL (rcolsL P sq n u)
theorem rcolsL_tab {P : Int} (hp : 2 ≤ P) (sq : List Int) (n : Nat) (u : List Int) : Tab P n (rcolsL P sq n u) := Tab.tab fun _ _ => ⟨by rw [rflL_len, unitRow_len], rflL_nums (by omega) _ _ _⟩
theorem rcolsL_len (P : Int) (sq : List Int) (n : Nat) (u : List Int) : (rcolsL P sq n u).length = n := tab_len _ _
theorem rmatL_tab {P : Int} (hp : 2 ≤ P) (sq : List Int) (n : Nat) (u : List Int) : Tab P n (rmatL P sq n u) := by
 have := transL_tab (p := P) (by omega) (rcolsL_tab hp sq n u)
 rwa [rcolsL_len] at this
theorem rmatL_len {P : Int} (hp : 2 ≤ P) (sq : List Int) {n : Nat} (h0 : 0 < n) (u : List Int) : (rmatL P sq n u).length = n := transL_len (rcolsL_tab hp sq n u) (by rw [rcolsL_len]; exact h0)
/-- Row r less the multiple of row i that makes its place i 0. -/
def dRow (p : Int) (m : List (List Int)) (i r : Nat) : List Int := plusL p (m.getD r []) (m.getD i []) (-(ent m r i) * invF p (ent m i i))
/-- The rows behind row i and ahead of row j, cleared at place i. -/
def dClr (p : Int) (m : List (List Int)) (i j : Nat) : List (List Int) := tab m.length fun r => if i < r ∧ r < j then dRow p m i r else m.getD r []
/-- The determinant, step by step. -/
def detF (p : Int) : Nat → List (List Int) → Nat → Int → Int
 | 0, _, _, out => out
 | f + 1, m, i, out => if pivOf m i i = m.length then 0 else
     detF p f (dClr p (swapL m i (pivOf m i i)) i m.length) (i + 1) ((if pivOf m i i = i then out else (-out) % p) * ent (swapL m i (pivOf m i i)) i i % p)
def detL (p : Int) (m : List (List Int)) : Int := detF p m.length m 0 1
section
variable {p : Int} {n : Nat} {m : List (List Int)} {i j : Nat}
theorem dClr_len (p : Int) (m : List (List Int)) (i j : Nat) : (dClr p m i j).length = m.length := tab_len _ _
theorem dClr_start (p : Int) (m : List (List Int)) (i : Nat) : dClr p m i (i + 1) = m := by
 refine List.ext_getElem (tab_len _ _) fun r h1 h2 => ?_
 have h := tab_getD (d := []) (n := m.length) (f := fun r => if i < r ∧ r < i + 1 then dRow p m i r else m.getD r []) h2
 rw [if_neg (by omega), getD_of_lt [] h2] at h
 rw [← getD_of_lt [] h1]
 exact h
theorem dClr_getD {r : Nat} (h : r < m.length) : (dClr p m i j).getD r [] = if i < r ∧ r < j then dRow p m i r else m.getD r [] := tab_getD h []
theorem dClr_succ (hj : j < m.length) (h : i < j) : dClr p m i (j + 1) = (dClr p m i j).set j (dRow p m i j) := by
 refine list_ext_getD [] (by rw [List.length_set, dClr_len, dClr_len]) fun r hr => ?_
 rw [dClr_len] at hr
 rw [getD_set, dClr_getD hr, dClr_getD hr, dClr_len]
 by_cases e : j = r
 · subst e
   rw [if_pos ⟨h, by omega⟩, if_pos ⟨rfl, hj⟩]
 · rw [if_neg (c := j = r ∧ _) (fun h => e h.1)]
   by_cases h2 : i < r ∧ r < j
   · rw [if_pos ⟨h2.1, by omega⟩, if_pos h2]
   · rw [if_neg fun h3 => h2 ⟨h3.1, by omega⟩, if_neg h2]
theorem dClr_tab (hp : 0 < p) (h : Tab p n m) (i j : Nat) : Tab p n (dClr p m i j) := Tab.tab fun r hr => by
 split
 · exact ⟨by unfold dRow; rw [plusL_len, (h.row hr).1], plusL_nums hp _ _ _⟩
 · exact h.row hr
theorem swapL_comm (m : List (List Int)) {i j : Nat} (h : i ≠ j) : swapL m i j = swapL m j i := by
 unfold swapL
 rw [List.set_comm _ _ h]
theorem swapL_same (m : List (List Int)) {i : Nat} (hi : i < m.length) : swapL m i i = m := by
 unfold swapL
 refine list_ext_getD [] (by simp) fun r hr => ?_
 rw [getD_set, getD_set]
 by_cases e : i = r
 · subst e; rw [if_pos ⟨rfl, by simpa using hi⟩]
 · rw [if_neg fun h => e h.1, if_neg fun h => e h.1]
theorem detF_none {f : Nat} {out : Int} (h : pivOf m i i = m.length) : detF p (f + 1) m i out = 0 := by unfold detF; rw [if_pos h]
theorem detF_step {f : Nat} {out : Int} (h : ¬ pivOf m i i = m.length) : detF p (f + 1) m i out = detF p f (dClr p (swapL m i (pivOf m i i)) i m.length) (i + 1) ((if pivOf m i i = i then out else (-out) % p) * ent (swapL m i (pivOf m i i)) i i % p) := by
 conv => lhs; unfold detF
 rw [if_neg h]
theorem mul_b {a b : Int} (ha : 0 ≤ a ∧ a ≤ 1000) (hb : 0 ≤ b ∧ b ≤ 1000) : 0 ≤ a * b ∧ a * b ≤ 1000000 := by
 refine ⟨Int.mul_nonneg ha.1 hb.1, ?_⟩
 have := Int.mul_le_mul ha.2 hb.2 hb.1 (by omega : (0 : Int) ≤ 1000)
 omega
end
theorem transL_row {m : List (List Int)} {n q : Nat} {p : Int} (hT : Tab p n m) (h0 : 0 < m.length) (hq : q < n) : (transL m).getD q [] = tab m.length fun i => ent m i q := by
 unfold transL
 rw [row0_len hT h0, tab_getD hq]
theorem apply_at {p : Int} {n : Nat} {a : List (List Int)} (hT : Tab p n a) (h0 : 0 < a.length) (z : List Int) {q : Nat} (hq : q < n) : (applyL p (transL a) z).getD q 0 = (sumTo a.length fun i => ent a i q * z.getD i 0) % p := by
 unfold applyL
 rw [tab_getD (by rw [transL_len hT h0]; exact hq), transL_row hT h0 hq]
 unfold dotL
 rw [tab_len]
 congr 1
 exact sumTo_congr fun i hi => by rw [tab_getD hi]
section
variable {p : Int} {sq : List Int}
instance : Std.Associative (α := Cl p sq) (· + ·) := ⟨Cl.add_assoc⟩
instance : Std.Commutative (α := Cl p sq) (· + ·) := ⟨Cl.add_comm⟩
end
end Go.Proofs.YtmkjdpnoloofjaaGreat
namespace Go.Proofs.YtmkjdpnoloofjaaGreat
open Go.RowKit
set_option maxHeartbeats 1600000 in
set_option maxRecDepth 8000 in
theorem timesM_any (p : Int) (A : Option Addr) (n c : Nat) (M : List (List Int)) (B : Option Addr) (d : Nat) (N : List (List Int)) (w : World) (hp : 2 ≤ p) (hp2 : p ≤ 13) (h0 : 0 < n) (hn : n ≤ 65536) (ha : RdII w A n M) (hM : Tab p n M) (hb : RdII w B n N) (hN : Tab p n N) :
    Calls Tryz.prog 84 #[.int .i64 p, .slice A n c, .slice B n d] w fun e w' => ∃ A' c', e = .returned (.slice A' n c') ∧ MkII w w' A' n c' (timesM p M N) := by
 have HT := Lib.hid hM
 have HL := Lib.hid ha.len
 have HTT : Hid (Tab p n (transL N)) := Lib.hid (by have := transL_tab (show 0 < p by omega) hN; rwa [hb.len] at this)
 have hcall := transpose_any p B n d N n w h0 hn hn hb hN
 clear hM hN hb
 go_enter Tryz.func84, Tryz.ntmps84
 go_wp2_with fail
 refine hcall.mono ?_
 rintro e w1 ⟨T, cT, rfl, hT1⟩
 have hM0 : MkII w1 (w1.alloc (.cells #[] 24)) (some ⟨w1.heap.size, 0, none⟩) 0 0 [] := MkII.empty zG
 have HB1 := Lib.hid hT1.b
 have ha1 := ha.below hT1.b
 have hTr := hT1.rd
 clear hcall hT1 ha
 go_wp2
 go_loopw [8, 16] (fun out i wr => ∃ (k : Nat) (A' : Option Addr) (c' : Nat), k ≤ n ∧ i = .int .i64 k ∧ out = .slice A' k c' ∧ MkII w1 wr A' k c' (tab k fun i => applyL p (transL N) (M.getD i []))) (fun _ i _ => n - (intOf i).toNat)
 case atStart => exact ⟨0, _, _, by omega, rfl, rfl, by simpa [tab] using hM0⟩
 case round =>
  obtain ⟨k, A', c', hk, rfl, rfl, hM⟩ := hrel
  clear hM0
  by_cases hlt : k < n
  · obtain ⟨g, o, rfl, hxk, A1, c1, hcx, hr1, _⟩ := (ha1.below hM.b).at_ hlt
    obtain ⟨hl1, hn1⟩ := HT.out M[k] (List.getElem_mem hxk)
    rw [hl1] at hcx hr1
    have hap := apply_any p T n cT (transL N) A1 n c1 M[k] wr hp hp2 hn hn (hTr.below hM.b) HTT.out hr1 hn1
    have HV : Hid ((tab (k + 1) fun i => applyL p (transL N) (M.getD i [])) = (tab k fun i => applyL p (transL N) (M.getD i [])) ++ [applyL p (transL N) M[k]]) := Lib.hid (by rw [tab_succ, getD_of_lt [] hxk])
    have HM := Lib.hid hM
    clear hM hr1 hl1 hn1 hTr ha1
    go_wp2_with fail
    refine hap.mono ?_
    rintro e w5 ⟨A5, c5, rfl, hM5⟩
    clear hap
    go_wp2_with (at_builtin; refine wpList_appRow w1 wr _ rfl _ _ rfl A' k c' _ A5 n c5 _ HM.out hM5 (by omega) rfl ?_ ?_; (go_simp); intro A6 c6 w6 hM6)
    go_roundw
    case rel => exact ⟨k + 1, A6, c6, by omega, by go_num, rfl, by rw [HV.out]; exact hM6⟩
    case measure => simp [intOf]; omega
  · obtain rfl : k = n := by omega
    go_wp2
    go_ret
    exact ⟨_, _, rfl, by unfold timesM; rw [HL.out]; exact hM.after HB1.out⟩
theorem timesM_row {p : Int} {n : Nat} {M N : List (List Int)} (h0 : 0 < n) (_hM : Tab p n M) (hN : Tab p n N) (hMl : M.length = n) (hNl : N.length = n) {i : Nat} (_hi : i < n) :
    applyL p (transL N) (M.getD i []) = tab n fun k => (sumTo n fun j => ent M i j * ent N j k) % p := by
 unfold applyL
 rw [transL_len hN (by omega)]
 refine tab_congr fun k hk => ?_
 have hrow : (transL N).getD k [] = tab n fun j => ent N j k := by
  unfold transL
  rw [(hN.row (show 0 < N.length by omega)).1, tab_getD hk [], hNl]
 rw [hrow]
 unfold dotL
 rw [tab_len]
 congr 1
 refine sumTo_congr fun j hj => ?_
 rw [tab_getD hj 0, Int.mul_comm]
 rfl
set_option maxHeartbeats 3200000 in
set_option maxRecDepth 8000 in
theorem l02Times_any (p : Int) (A : Option Addr) (n c : Nat) (M : List (List Int)) (B : Option Addr) (d : Nat) (N : List (List Int)) (w : World) (hp : 2 ≤ p) (hp2 : p ≤ 13) (h0 : 0 < n) (hn : n ≤ 65536) (ha : RdII w A n M) (hM : Tab p n M) (hb : RdII w B n N) (hN : Tab p n N) :
    Calls Tryz.prog 87 #[.int .i64 p, .slice A n c, .slice B n d] w fun e w' => ∃ A' c', e = .returned (.slice A' n c') ∧ MkII w w' A' n c' (timesM p M N) := by
 have HMT := Lib.hid hM
 have HNT := Lib.hid hN
 have HML := Lib.hid ha.len
 have HNL := Lib.hid hb.len
 have HROW : Hid (∀ i, i < n → applyL p (transL N) (M.getD i []) = tab n fun k => (sumTo n fun j => ent M i j * ent N j k) % p) := Lib.hid (fun i hi => timesM_row h0 hM hN ha.len hb.len hi)
 have hM0 : MkII w (w.alloc (.cells #[] 24)) (some ⟨w.heap.size, 0, none⟩) 0 0 [] := MkII.empty zG
 obtain ⟨g, o, rfl, _⟩ := ha.at_ h0
 obtain ⟨g3, o3, rfl, _⟩ := hb.at_ h0
 clear hM hN
 go_enter Tryz.func87, Tryz.ntmps87
 go_wp2
 obtain ⟨w1, hw1⟩ : ∃ W, W = w.alloc (.cells #[] 24) := ⟨_, rfl⟩
 rw [← hw1] at hM0 ⊢
 clear hw1
 go_loopw [7, 8] (fun out i wr => ∃ (i' : Nat) (A' : Option Addr) (c' : Nat), i' ≤ n ∧ i = .int .i64 i' ∧ out = .slice A' i' c' ∧ MkII w wr A' i' c' (tab i' fun i => applyL p (transL N) (M.getD i []))) (fun _ i _ => n - (intOf i).toNat)
 case atStart => exact ⟨0, _, _, by omega, rfl, rfl, by simpa [tab] using hM0⟩
 case round =>
  obtain ⟨i, A', c', hi, rfl, rfl, hM⟩ := hrel
  clear hM0
  obtain ⟨wo, rfl⟩ : ∃ W, W = wr := ⟨_, rfl⟩
  by_cases hlt : i < n
  · have hr0 := Mk.lit (E := 2) (Below.refl wo.heap.size wo) #[] (by simp)
    have hR0 : MkI wo (wo.alloc (.cells #[] 2)) (some ⟨wo.heap.size, 0, none⟩) 0 0 [] := by simpa [MkI, ints] using hr0
    have HM := Lib.hid hM
    clear hr0 hM
    go_wp2
    go_loopw [9, 10] (fun row k w2 => ∃ (k' : Nat) (A2 : Option Addr) (c2 : Nat), k' ≤ n ∧ k = .int .i64 k' ∧ row = .slice A2 k' c2 ∧ MkI wo w2 A2 k' c2 (tab k' fun k => (sumTo n fun j => ent M i j * ent N j k) % p)) (fun _ k _ => n - (intOf k).toNat)
    case atStart => exact ⟨0, _, _, by omega, rfl, rfl, by simpa [tab] using hR0⟩
    case round =>
     obtain ⟨k, A2, c2, hk, rfl, rfl, hR⟩ := hrel
     clear hR0
     obtain ⟨wm, rfl⟩ : ∃ W, W = wr := ⟨_, rfl⟩
     have hbb := HM.out.b.trans (hR.b.mono HM.out.b.size)
     obtain ⟨A0, c0, hcx0⟩ := (hb.below hbb).row0 h0 HNT.out
     have HR := Lib.hid hR
     by_cases hlk : k < n
     · have ha2 := ha.below hbb
       have hb2 := hb.below hbb
       clear hR hbb ha hb
       go_wp2
       clear hcx0
       go_loopw [11, 12] (fun s j w3 => ∃ j' : Nat, j' ≤ n ∧ j = .int .i64 j' ∧ s = .int .i64 ((sumTo j' fun j => ent M i j * ent N j k) % p) ∧ Below wm.heap.size wm w3) (fun _ j _ => n - (intOf j).toNat)
       case atStart => exact ⟨0, by omega, rfl, by simp [sumTo], Below.refl _ _⟩
       case round =>
        obtain ⟨j, hj, rfl, rfl, hB3⟩ := hrel
        have hstep := Lib.hid (sumTo_step p j fun j => ent M i j * ent N j k)
        have s1 := Int.emod_nonneg (sumTo j fun j => ent M i j * ent N j k) (show p ≠ 0 by omega)
        have s2 := Int.emod_lt_of_pos (sumTo j fun j => ent M i j * ent N j k) (show 0 < p by omega)
        have hend : Hid (j = n → (sumTo n fun j => ent M i j * ent N j k) % p = (sumTo j fun j => ent M i j * ent N j k) % p) := Lib.hid (fun h => by rw [h])
        obtain ⟨s, hs⟩ : ∃ s, s = (sumTo j fun j => ent M i j * ent N j k) % p := ⟨_, rfl⟩
        rw [← hs] at s1 s2 hstep hend ⊢
        clear hs
        by_cases hlj : j < n
        · obtain ⟨g', o', e', hxi, A1, c1, hcx1, hr1, _⟩ := (ha2.below hB3).at_ hlt
          injection e' with e'; injection e' with e1 e2 _
          subst e1; subst e2
          obtain ⟨hl1, hn1⟩ := HMT.out M[i] (List.getElem_mem hxi)
          rw [hl1] at hcx1 hr1
          obtain ⟨g2, o2, rfl, hxe1, hce1⟩ := hr1.int hlj
          obtain ⟨g', o', e', hxj, A3, c3, hcx2, hr3, _⟩ := (hb2.below hB3).at_ hlj
          injection e' with e'; injection e' with e1 e2 _
          subst e1; subst e2
          obtain ⟨hl3, hn3⟩ := HNT.out N[j] (List.getElem_mem hxj)
          rw [hl3] at hcx2 hr3
          obtain ⟨g4, o4, rfl, hxe3, hce2⟩ := hr3.int hlk
          obtain ⟨x1, x2⟩ := hn1 _ (List.getElem_mem hxe1)
          obtain ⟨y1, y2⟩ := hn3 _ (List.getElem_mem hxe3)
          obtain ⟨m1, m2⟩ := mul_small x1 (show M[i][j] ≤ 13 by omega) y1 (show N[j][k] ≤ 13 by omega)
          have HV : Hid ((sumTo (j + 1) fun j => ent M i j * ent N j k) % p = (s + M[i][j] * N[j][k]) % p) := Lib.hid (by rw [← hstep.out, ent_at hxi hxe1, ent_at hxj hxe3])
          have W1 := i64_fit (M[i][j] * N[j][k]) (by omega) (by omega)
          have W2 := i64_fit (s + M[i][j] * N[j][k]) (by omega) (by omega)
          have W3 : (s + M[i][j] * N[j][k]).tmod p = (s + M[i][j] * N[j][k]) % p := Int.tmod_eq_emod_of_nonneg (by omega)
          have hP0 : ¬ p = 0 := by omega
          have i1 : (0 : Int) ≤ (i : Int) := by omega
          have i2 : (i : Int) < (n : Int) := by omega
          have i3 : (0 : Int) ≤ (j : Int) := by omega
          have i4 : (j : Int) < (n : Int) := by omega
          have i5 : (0 : Int) ≤ (k : Int) := by omega
          have i6 : (k : Int) < (n : Int) := by omega
          clear hr1 hl1 hn1 hr3 hl3 hn3 ha2 hb2
          go_wp2
          refine wp_obs 19 [[],[],[],[1,2],[1,2,3],[],[1,2,3,4,5],[1,2,3,4,5,6],[],[],[8,9],[8,9,10],[],[8,9,10,11,12],[8,9,10,11,12,13],[1,2,3,4,5,6,7,8,9,10,11,12,13,14],[0,1,2,3,4,5,6,7,8,9,10,11,12,13,14,15],[],[0,1,2,3,4,5,6,7,8,9,10,11,12,13,14,15,16,17],[0,1,2,3,4,5,6,7,8,9,10,11,12,13,14,15,16,17,18]] [VIs (.int .i64 (s)), VIs (.slice (some ⟨g, o, none⟩) n c), VIs (.int .i64 (i)), VIs (.pointer (some ⟨g, o + i, none⟩)), VIs (.slice (some ⟨g2, o2, none⟩) n c1), VIs (.int .i64 (j)), VIs (.pointer (some ⟨g2, o2 + j, none⟩)), VIs (.int .i64 (M[i][j])), VIs (.slice (some ⟨g3, o3, none⟩) n d), VIs (.int .i64 (j)), VIs (.pointer (some ⟨g3, o3 + j, none⟩)), VIs (.slice (some ⟨g4, o4, none⟩) n c3), VIs (.int .i64 (k)), VIs (.pointer (some ⟨g4, o4 + k, none⟩)), VIs (.int .i64 (N[j][k])), VIs (.int .i64 (M[i][j] * N[j][k])), VIs (.int .i64 (s + M[i][j] * N[j][k])), VIs (.int .i64 (p)), VIs (.int .i64 ((s + M[i][j] * N[j][k]) % p))] (fun w' => w'.cell? ⟨g, o + i, none⟩ = some (.slice (some ⟨g2, o2, none⟩) n c1) ∧ w'.cell? ⟨g2, o2 + j, none⟩ = some (.int .i64 M[i][j]) ∧ w'.cell? ⟨g3, o3 + j, none⟩ = some (.slice (some ⟨g4, o4, none⟩) n c3) ∧ w'.cell? ⟨g4, o4 + k, none⟩ = some (.int .i64 N[j][k]) ∧ Below wm.heap.size wm w') (by kernel_rfl) (by kernel_rfl) (fun _ _ h hb => ⟨(hb.cell (World.block_lt_of_cell? _ _ h.1)).trans h.1, (hb.cell (World.block_lt_of_cell? _ _ h.2.1)).trans h.2.1, (hb.cell (World.block_lt_of_cell? _ _ h.2.2.1)).trans h.2.2.1, (hb.cell (World.block_lt_of_cell? _ _ h.2.2.2.1)).trans h.2.2.2.1, h.2.2.2.2.trans (hb.mono h.2.2.2.2.size)⟩) (⟨hcx1, hce1, hcx2, hce2, hB3.drew⟩) (fun x => ?_)
          refine zS (fun w' hS hV K hK => ?_) ?_
          · obtain ⟨q0, q1, q2, q3, _⟩ := hS; go_simp; exact zO hK
          refine zS (fun w' hS hV K hK => ?_) ?_
          · obtain ⟨q0, q1, q2, q3, _⟩ := hS; go_simp; exact zO hK
          refine zS (fun w' hS hV K hK => ?_) ?_
          · obtain ⟨q0, q1, q2, q3, _⟩ := hS; go_simp; exact zO hK
          refine zS (fun w' hS hV K hK => ?_) ?_
          · have e1 := zQ hV 1; have e2 := zQ hV 2; obtain ⟨q0, q1, q2, q3, _⟩ := hS; go_simp; exact zO hK
          refine zS (fun w' hS hV K hK => ?_) ?_
          · have e3 := zQ hV 3; obtain ⟨q0, q1, q2, q3, _⟩ := hS; go_simp; exact zO hK
          refine zS (fun w' hS hV K hK => ?_) ?_
          · obtain ⟨q0, q1, q2, q3, _⟩ := hS; go_simp; exact zO hK
          refine zS (fun w' hS hV K hK => ?_) ?_
          · have e4 := zQ hV 4; have e5 := zQ hV 5; obtain ⟨q0, q1, q2, q3, _⟩ := hS; go_simp; exact zO hK
          refine zS (fun w' hS hV K hK => ?_) ?_
          · have e6 := zQ hV 6; obtain ⟨q0, q1, q2, q3, _⟩ := hS; go_simp; exact zO hK
          refine zS (fun w' hS hV K hK => ?_) ?_
          · obtain ⟨q0, q1, q2, q3, _⟩ := hS; go_simp; exact zO hK
          refine zS (fun w' hS hV K hK => ?_) ?_
          · obtain ⟨q0, q1, q2, q3, _⟩ := hS; go_simp; exact zO hK
          refine zS (fun w' hS hV K hK => ?_) ?_
          · have e8 := zQ hV 8; have e9 := zQ hV 9; obtain ⟨q0, q1, q2, q3, _⟩ := hS; go_simp; exact zO hK
          refine zS (fun w' hS hV K hK => ?_) ?_
          · have e10 := zQ hV 10; obtain ⟨q0, q1, q2, q3, _⟩ := hS; go_simp; exact zO hK
          refine zS (fun w' hS hV K hK => ?_) ?_
          · obtain ⟨q0, q1, q2, q3, _⟩ := hS; go_simp; exact zO hK
          refine zS (fun w' hS hV K hK => ?_) ?_
          · have e11 := zQ hV 11; have e12 := zQ hV 12; obtain ⟨q0, q1, q2, q3, _⟩ := hS; go_simp; exact zO hK
          refine zS (fun w' hS hV K hK => ?_) ?_
          · have e13 := zQ hV 13; obtain ⟨q0, q1, q2, q3, _⟩ := hS; go_simp; exact zO hK
          refine zS (fun w' hS hV K hK => ?_) ?_
          · have e7 := zQ hV 7; have e14 := zQ hV 14; obtain ⟨q0, q1, q2, q3, _⟩ := hS; go_simp; exact zO hK
          refine zS (fun w' hS hV K hK => ?_) ?_
          · have e0 := zQ hV 0; have e15 := zQ hV 15; obtain ⟨q0, q1, q2, q3, _⟩ := hS; go_simp; exact zO hK
          refine zS (fun w' hS hV K hK => ?_) ?_
          · obtain ⟨q0, q1, q2, q3, _⟩ := hS; go_simp; exact zO hK
          refine zS (fun w' hS hV K hK => ?_) ?_
          · have e16 := zQ hV 16; have e17 := zQ hV 17; obtain ⟨q0, q1, q2, q3, _⟩ := hS; go_simp; exact zO hK
          refine fun w' hS hV => ?_
          have e0 := zT hV 0
          have e1 := zT hV 1
          have e2 := zT hV 2
          have e3 := zT hV 3
          have e4 := zT hV 4
          have e5 := zT hV 5
          have e6 := zT hV 6
          have e7 := zT hV 7
          have e8 := zT hV 8
          have e9 := zT hV 9
          have e10 := zT hV 10
          have e11 := zT hV 11
          have e12 := zT hV 12
          have e13 := zT hV 13
          have e14 := zT hV 14
          have e15 := zT hV 15
          have e16 := zT hV 16
          have e17 := zT hV 17
          have e18 := zT hV 18
          simp only [e0, e1, e2, e3, e4, e5, e6, e7, e8, e9, e10, e11, e12, e13, e14, e15, e16, e17, e18]
          clear e0 e1 e2 e3 e4 e5 e6 e7 e8 e9 e10 e11 e12 e13 e14 e15 e16 e17 e18
          refine any_one (j := 19) (by kernel_rfl) (Eq.trans (by simp only [zA, zB, zC]; exact rfl) rfl) (fun K hK => ?_)
          go_simp
          refine hK.out _ _ (wpAny_done (by kernel_rfl) ?_ _)
          have hB4 := hS.2.2.2.2
          go_wp2
          go_roundw
          case rel => exact ⟨j + 1, by omega, by go_num, by rw [HV.out], hB4⟩
          case measure => simp [intOf]; omega
        · have HB3 := Lib.hid hB3
          have hR4 := HR.out.below hB3
          clear ha2 hb2
          go_wp2_with (at_builtin; refine wpList_app1 wo _ 24 2 _ _ Tryz.underlying24 info_i rfl (by omega) rfl _ _ rfl A2 k c2 _ _ hR4 (by omega) rfl rfl rfl ?_; intro A4 c4 w4 hM4 _ _)
          go_roundw
          case rel => exact ⟨k + 1, A4, c4, by omega, by go_num, rfl, by rw [tab_succ, hend.out (by omega)]; simpa [MkI, ints] using hM4⟩
          case measure => simp [intOf]; omega
     · obtain rfl : k = n := by omega
       clear hR ha hb
       go_wp2_with (at_builtin; refine wpList_appRow w wo _ rfl _ _ rfl A' i c' _ A2 k c2 _ HM.out HR.out (by omega) rfl ?_ ?_; (go_simp); intro A4 c4 w4 hM4)
       go_roundw
       case rel => exact ⟨i + 1, A4, c4, by omega, by go_num, rfl, by rw [tab_succ, HROW.out i hlt]; exact hM4⟩
       case measure => simp [intOf]; omega
  · go_wp2
    go_ret
    obtain rfl : i = n := by omega
    exact ⟨_, _, rfl, by unfold timesM; rw [HML.out]; exact hM⟩
theorem dotL_small {p : Int} (hp : 0 < p) (a b : List Int) : 0 ≤ dotL p a b ∧ dotL p a b < p := ⟨Int.emod_nonneg _ (by omega), Int.emod_lt_of_pos _ hp⟩
theorem timesM_tab {p : Int} {n : Nat} {M N : List (List Int)} (hp : 0 < p) (h0 : 0 < n) (hN : Tab p n N) (hNl : N.length = n) : Tab p n (timesM p M N) :=
 Tab.tab fun _ _ => ⟨by unfold applyL; rw [tab_len, transL_len hN (by omega)], NumsL.tab fun _ _ => dotL_small hp _ _⟩
end Go.Proofs.YtmkjdpnoloofjaaGreat
namespace Go.Proofs.YtmkjdpnoloofjaaGreat
section
variable {p : Int} {sq : List Int}
theorem bil_unit {a b : Nat} (_ha : a < sq.length) (hb : b < sq.length) : bil sq (unitRow sq.length a) (unitRow sq.length b) = if a = b then sq.getD b 0 else 0 := by
 unfold bil
 rw [sumTo_one b hb fun j hj hne => by rw [unitRow_getD (k := b) hj, if_neg fun e => hne e.symm, Int.mul_zero, Int.zero_mul], unitRow_getD hb, unitRow_getD hb, if_pos rfl]
 split <;> simp
end
section
variable {p : Int} {sq : List Int}
/-- The multivector with 1 at one place. -/
def Cl.at_ (hp : 0 < p) (m : Nat) : Cl p sq := Cl.of hp fun q => if q = m then 1 else 0
end
/-- All squares 0. -/
abbrev zs (n : Nat) : List Int := List.replicate n 0
section
variable {p : Int} {n : Nat}
end
section
variable {p : Int} {n : Nat}
theorem ent_trans {m : List (List Int)} (hT : Tab p n m) (h0 : 0 < m.length) {i q : Nat} (hi : i < m.length) (hq : q < n) : ent (transL m) q i = ent m i q := by
 unfold ent
 rw [transL_row hT h0 hq, tab_getD hi]; rfl
end
end Go.Proofs.YtmkjdpnoloofjaaGreat
namespace Go.Proofs.YtmkjdpnoloofjaaGreat
open Go.RowKit
theorem unitM_ent {n i k : Nat} (hi : i < n) (hk : k < n) : ent (unitM n) i k = if i = k then 1 else 0 := by
 have hl : i < (unitM n).length := by rw [unitM_len]; exact hi
 unfold ent
 rw [getD_of_lt [] hl, unitM_get n i hl]
 unfold unitRow
 rw [getD_set, List.length_replicate]
 by_cases h : i = k
 · rw [if_pos ⟨h, hi⟩, if_pos h]
 · rw [if_neg (fun hh => h hh.1), if_neg h, getD_of_lt 0 (by simpa using hk)]; simp
theorem l02Unit_any (n : Nat) (w : World) (hn : n ≤ 65536) :
    Calls Tryz.prog 85 #[.int .i64 n] w fun e w' => ∃ A c, e = .returned (.slice A n c) ∧ MkII w w' A n c (unitM n) := by
 have hmk := make_i (P := Tryz.prog) 24 2 Tryz.underlying24 info_i n (by omega)
 have hM0 : MkII w (w.alloc (.cells #[] 24)) (some ⟨w.heap.size, 0, none⟩) 0 0 [] := MkII.empty zG
 go_enter Tryz.func85, Tryz.ntmps85
 go_wp2
 go_loopw [3, 4] (fun out i wr => ∃ (k : Nat) (A : Option Addr) (c : Nat), k ≤ n ∧ i = .int .i64 k ∧ out = .slice A k c ∧ MkII w wr A k c ((unitM n).take k)) (fun _ i _ => n - (intOf i).toNat)
 case atStart => exact ⟨0, _, _, by omega, rfl, rfl, by simpa using hM0⟩
 case round =>
  obtain ⟨k, A, c, hk, rfl, rfl, hM⟩ := hrel
  clear hM0
  by_cases hlt : k < n
  · have hm1 := Mk.made (E := 2) (n := n) (z := .int .i64 0) (Below.refl wr.heap.size wr) (by simp only [maxLen]; omega)
    rw [ints_replicate] at hm1
    obtain ⟨u1, hc1⟩ := hm1.2.cellI hlt
    have hf1 := hm1.2.frozen_ k
    have hm2 := (hm1.set k (.int .i64 1)).1
    rw [ints_set, World.setCell_alloc_at _ _ _ _ _ rfl] at hm2
    have HM := Lib.hid hM
    have HM2 := Lib.hid hm2
    clear hM hm1 hm2
    go_wp2_with (at_builtin; refine wpList_appRow w wr _ rfl _ _ rfl A k c _ _ n n _ HM.out HM2.out (by omega) rfl ?_ ?_; (go_simp); intro A' c' w' hM')
    go_roundw
    case rel => exact ⟨k + 1, A', c', by omega, by go_num, rfl, by rw [unitM_take n k hlt]; exact hM'⟩
    case measure => simp [intOf]; omega
  · go_wp2
    go_ret
    obtain rfl : k = n := by omega
    rw [List.take_of_length_le (by rw [unitM_len]; omega)] at hM
    exact ⟨_, _, rfl, hM⟩
end Go.Proofs.YtmkjdpnoloofjaaGreat
namespace Go.Proofs.YtmkjdpnoloofjaaGreat
section
variable {p : Int} {n : Nat}
/-- The determinant of a product. -/
theorem applyL_len (p : Int) (a : List (List Int)) (v : List Int) : (applyL p a v).length = a.length := tab_len _ _
theorem applyL_nums (hp : 0 < p) (a : List (List Int)) (v : List Int) : NumsL p (applyL p a v) := NumsL.tab fun i _ => by
 unfold dotL
 exact ⟨Int.emod_nonneg _ (by omega), Int.emod_lt_of_pos _ hp⟩
end
section
variable {p : Int} {n : Nat}
theorem mat_ext {a b : List (List Int)} (ha : Tab p n a) (hb : Tab p n b) (h : a.length = b.length) (he : ∀ i q, i < a.length → q < n → ent a i q = ent b i q) : a = b := by
 refine list_ext_getD [] h fun i hi => ?_
 have h1 := ha.row hi
 have h2 := hb.row (show i < b.length by omega)
 refine list_ext_getD 0 (by rw [h1.1, h2.1]) fun q hq => ?_
 rw [h1.1] at hq
 exact he i q hi hq
theorem trans_at {m : List (List Int)} (hT : Tab p n m) (hl : m.length = n) (hn : 0 < n) {i q : Nat} (hi : i < n) (hq : q < n) : ent (transL m) i q = ent m q i := ent_trans hT (by omega) (by omega) hi
theorem trans_ok (hp : 0 < p) {m : List (List Int)} (hT : Tab p n m) (hl : m.length = n) (hn : 0 < n) : Tab p n (transL m) ∧ (transL m).length = n := by
 have := transL_tab hp hT
 rw [hl] at this
 exact ⟨this, transL_len hT (by omega)⟩
end
/-- Matrices with n rows and columns of numbers. -/
structure Mt (p : Int) (n : Nat) where
 l : List (List Int)
 len : l.length = n
 tab : Tab p n l
 pos : 0 < p
section
variable {p : Int} {n : Nat}
def Mt.at (x : Mt p n) (i j : Nat) : Int := ent x.l i j
theorem Mt.ext {x y : Mt p n} (h : x.l = y.l) : x = y := by
 cases x; cases y; simp only at h; subst h; rfl
theorem Mt.small (x : Mt p n) (i j : Nat) : 0 ≤ x.at i j ∧ x.at i j < p := x.tab.ent x.pos i j
theorem Mt.same {x y : Mt p n} (h : ∀ i j, i < n → j < n → x.at i j % p = y.at i j % p) : x = y := Mt.ext (mat_ext x.tab y.tab (x.len.trans y.len.symm) fun i q hi hq => by
 rw [x.len] at hi
 exact cg_eq (x.small i q) (y.small i q) (h i q hi hq))
def Mt.of (hp : 0 < p) (f : Nat → Nat → Int) : Mt p n := ⟨Go.Proofs.YtmkjdpnoloofjaaGreat.tab n fun i => Go.Proofs.YtmkjdpnoloofjaaGreat.tab n fun j => f i j % p, tab_len _ _, Tab.tab fun i _ => ⟨tab_len _ _, NumsL.tab fun j _ => ⟨Int.emod_nonneg _ (by omega), Int.emod_lt_of_pos _ hp⟩⟩, hp⟩
theorem Mt.of_at (hp : 0 < p) (f : Nat → Nat → Int) {i j : Nat} (hi : i < n) (hj : j < n) : (Mt.of hp f : Mt p n).at i j = f i j % p := by
 show ((Go.Proofs.YtmkjdpnoloofjaaGreat.tab n fun i => Go.Proofs.YtmkjdpnoloofjaaGreat.tab n fun j => f i j % p).getD i []).getD j 0 = _
 rw [tab_getD hi, tab_getD hj]
theorem Mt.of_cg (hp : 0 < p) (f : Nat → Nat → Int) {i j : Nat} (hi : i < n) (hj : j < n) : (Mt.of hp f : Mt p n).at i j % p = f i j % p := by rw [Mt.of_at hp f hi hj, cg_self]
instance : Mul (Mt p n) := ⟨fun x y => Mt.of x.pos fun i j => sumTo n fun k => x.at i k * y.at k j⟩
instance : Add (Mt p n) := ⟨fun x y => Mt.of x.pos fun i j => x.at i j + y.at i j⟩
instance : HMul Int (Mt p n) (Mt p n) := ⟨fun k x => Mt.of x.pos fun i j => k * x.at i j⟩
def Mt.one (hp : 0 < p) : Mt p n := Mt.of hp fun i j => if i = j then 1 else 0
def Mt.tr (x : Mt p n) : Mt p n := Mt.of x.pos fun i j => x.at j i
theorem Mt.mul_at (x y : Mt p n) {i j : Nat} (hi : i < n) (hj : j < n) : (x * y).at i j % p = (sumTo n fun k => x.at i k * y.at k j) % p := Mt.of_cg x.pos _ hi hj
theorem Mt.add_at (x y : Mt p n) {i j : Nat} (hi : i < n) (hj : j < n) : (x + y).at i j % p = (x.at i j + y.at i j) % p := Mt.of_cg x.pos _ hi hj
theorem Mt.one_at (hp : 0 < p) {i j : Nat} (hi : i < n) (hj : j < n) : (Mt.one hp : Mt p n).at i j % p = (if i = j then 1 else 0) % p := Mt.of_cg hp _ hi hj
theorem Mt.tr_at (x : Mt p n) {i j : Nat} (hi : i < n) (hj : j < n) : x.tr.at i j % p = x.at j i % p := Mt.of_cg x.pos (fun i j => x.at j i) hi hj
theorem Mt.mul_assoc (x y z : Mt p n) : x * y * z = x * (y * z) := Mt.same fun i j hi hj => by
 rw [Mt.mul_at _ _ hi hj, Mt.mul_at _ _ hi hj]
 have h1 : (sumTo n fun k => (x * y).at i k * z.at k j) % p = (sumTo n fun k => sumTo n fun r => x.at i r * y.at r k * z.at k j) % p := sumTo_mod p fun k hk => by
  rw [cg_mul (Mt.mul_at x y hi hk) rfl, ← sumTo_mul_right]
 have h2 : (sumTo n fun r => x.at i r * (y * z).at r j) % p = (sumTo n fun r => sumTo n fun k => x.at i r * y.at r k * z.at k j) % p := sumTo_mod p fun r hr => by
  rw [cg_mul (rfl : x.at i r % p = x.at i r % p) (Mt.mul_at y z hr hj), ← sumTo_mul]
  congr 1
  exact sumTo_congr fun k _ => (Int.mul_assoc _ _ _).symm
 rw [h1, h2, sumTo_comm]
theorem Mt.one_mul (hp : 0 < p) (x : Mt p n) : Mt.one hp * x = x := Mt.same fun i j hi hj => by
 rw [Mt.mul_at _ _ hi hj]
 have h : (sumTo n fun k => (Mt.one hp : Mt p n).at i k * x.at k j) % p = (sumTo n fun k => (if i = k then 1 else 0) * x.at k j) % p := sumTo_mod p fun k hk => cg_mul (Mt.one_at hp hi hk) rfl
 rw [h, sumTo_one i hi fun k _ hne => by rw [if_neg fun e => hne e.symm, Int.zero_mul], if_pos rfl, Int.one_mul]
theorem Mt.mul_one (hp : 0 < p) (x : Mt p n) : x * Mt.one hp = x := Mt.same fun i j hi hj => by
 rw [Mt.mul_at _ _ hi hj]
 have h : (sumTo n fun k => x.at i k * (Mt.one hp : Mt p n).at k j) % p = (sumTo n fun k => x.at i k * (if k = j then 1 else 0)) % p := sumTo_mod p fun k hk => cg_mul rfl (Mt.one_at hp hk hj)
 rw [h, sumTo_one j hj fun k _ hne => by rw [if_neg hne, Int.mul_zero], if_pos rfl, Int.mul_one]
theorem Mt.add_comm (x y : Mt p n) : x + y = y + x := Mt.same fun i j hi hj => by rw [Mt.add_at _ _ hi hj, Mt.add_at _ _ hi hj, Int.add_comm]
theorem Mt.add_assoc (x y z : Mt p n) : x + y + z = x + (y + z) := Mt.same fun i j hi hj => by
 rw [Mt.add_at _ _ hi hj, Mt.add_at _ _ hi hj, cg_add (Mt.add_at x y hi hj) rfl, cg_add (rfl : x.at i j % p = x.at i j % p) (Mt.add_at y z hi hj), Int.add_assoc]
theorem Mt.mul_l (x y : Mt p n) (hn : 0 < n) : (x * y).l = timesM p x.l y.l := by
 have hT : Tab p n (timesM p x.l y.l) := by
  refine Tab.tab fun i hi => ?_
  exact ⟨by rw [applyL_len, transL_len y.tab (by rw [y.len]; exact hn)], applyL_nums x.pos _ _⟩
 refine mat_ext (x * y).tab hT (by rw [(x * y).len]; unfold timesM; rw [tab_len, x.len]) fun i q hi hq => ?_
 rw [(x * y).len] at hi
 have e : ent (timesM p x.l y.l) i q = (applyL p (transL y.l) (x.l.getD i [])).getD q 0 := by
  unfold ent timesM
  rw [tab_getD (by rw [x.len]; exact hi)]
 rw [e, apply_at y.tab (by rw [y.len]; exact hn) _ hq, y.len]
 show (x * y).at i q = _
 have h := Mt.mul_at x y hi hq
 rw [Int.emod_eq_of_lt ((x * y).small i q).1 ((x * y).small i q).2] at h
 rw [h]
 congr 1
 exact sumTo_congr fun k _ => Int.mul_comm _ _
theorem Mt.one_l (hp : 2 ≤ p) : (Mt.one (by omega) : Mt p n).l = unitM n := mat_ext (Mt.one (p := p) (n := n) (by omega)).tab (unitM_tab hp n) (by rw [Mt.len, unitM_len]) fun i q hi hq => by
 rw [Mt.len] at hi
 rw [unitM_ent hi hq]
 show (Mt.one (by omega) : Mt p n).at i q = _
 have h := Mt.one_at (p := p) (n := n) (by omega) hi hq
 rw [Int.emod_eq_of_lt (Mt.small _ i q).1 (Mt.small _ i q).2] at h
 rw [h]
 split
 · exact Int.emod_eq_of_lt (by omega) (by omega)
 · exact Int.zero_emod p
end
section
variable {p : Int} {n : Nat}
instance : Std.Associative (α := Mt p n) (· + ·) := ⟨Mt.add_assoc⟩
instance : Std.Commutative (α := Mt p n) (· + ·) := ⟨Mt.add_comm⟩
end
section
variable {p : Int} {n : Nat} {M : List (List Int)}
theorem unitRow_ent {n i k : Nat} (hi : i < n) (hk : k < n) : (unitRow n i).getD k 0 = if i = k then 1 else 0 := by
 rw [← unitM_ent hi hk]; unfold ent; rw [unitM_getD hi]
def Mt.mk' (hp : 0 < p) (hT : Tab p n M) (hl : M.length = n) : Mt p n := ⟨M, hl, hT, hp⟩
end
end Go.Proofs.YtmkjdpnoloofjaaGreat
namespace Go.Proofs.YtmkjdpnoloofjaaGreat
open Go.RowKit
set_option maxHeartbeats 1600000 in
set_option maxRecDepth 8000 in
theorem isTable_ok (p : Int) (A : Option Addr) (n c : Nat) (M : List (List Int)) (m : Nat) (w : World) (hp0 : 0 < p) (hp1 : p ≤ 13) (hn : n ≤ 16) (hm1 : 1 ≤ m) (hm : m ≤ 16) (ha : RdII w A n M) (hT : Tab p m M) :
    Calls Tryz.prog 158 #[.int .i64 p, .slice A n c] w fun e w' => e = .returned (.bool true) ∧ w = w' := by
 have HT := Lib.hid hT
 have t1 : decide ((16 : Int) < (n : Int)) = false := by simp; omega
 have t2 : decide ((m : Int) < 1) = false := by simp; omega
 have t3 : decide ((16 : Int) < (m : Int)) = false := by simp; omega
 have t4 : ((m : Int) != (m : Int)) = false := by simp
 clear hT
 go_enter Tryz.func158, Tryz.ntmps158
 go_wp2
 go_loopw [12] (fun i wr => ∃ k : Nat, k ≤ n ∧ i = .int .i64 k ∧ wr = w) (fun i _ => n - (intOf i).toNat)
 case atStart => exact ⟨0, by omega, rfl, rfl⟩
 case round =>
  obtain ⟨k, hk, rfl, rfl⟩ := hrel
  by_cases hlt : k < n
  · obtain ⟨g, o, rfl, hxk, A1, c1, hc1, hr1, -⟩ := ha.at_ hlt
    obtain ⟨g0, o0, e0, hx0, A0, c0, hc0, hr0, -⟩ := ha.at_ (show 0 < n by omega)
    cases e0
    obtain ⟨l1, n1⟩ := HT.out M[k] (List.getElem_mem hxk)
    obtain ⟨l0, -⟩ := HT.out M[0] (List.getElem_mem hx0)
    rw [l1] at hc1 hr1
    rw [l0] at hc0
    rw [Nat.add_zero] at hc0
    have his := is_b p A1 m c1 M[k] wr (by omega) (by omega) (by omega) hr1 (List.all_eq_true.2 fun x hx => by have := n1 x hx; simp [inR]; omega)
    clear hr1 hr0 l1 n1 l0 ha
    go_wp2_with fail
    refine his.mono ?_
    rintro e w1 ⟨rfl, rfl⟩
    go_wp2
    go_roundw
    case rel => exact ⟨k + 1, by omega, by go_num, by first | rfl | trivial⟩
    case measure => simp [intOf]; omega
  · go_wp2
    go_ret
    exact ⟨rfl, rfl⟩
set_option maxHeartbeats 800000 in
set_option maxRecDepth 8000 in
theorem isMatrix_ok (p : Int) (A : Option Addr) (n c : Nat) (M : List (List Int)) (m : Nat) (w : World) (hp0 : 0 < p) (hp1 : p ≤ 13) (hn0 : 0 < n) (hn : n ≤ 16) (hm1 : 1 ≤ m) (hm : m ≤ 16) (ha : RdII w A n M) (hT : Tab p m M) :
    Calls Tryz.prog 195 #[.int .i64 p, .slice A n c] w fun e w' => e = .returned (.bool true) ∧ w = w' := by
 have h := isTable_ok p A n c M m w hp0 hp1 hn hm1 hm ha hT
 have t1 : decide ((0 : Int) < (n : Int)) = true := by simp; omega
 clear hT
 go_enter Tryz.func195, Tryz.ntmps195
 go_wp2_with fail
 refine h.mono ?_
 rintro e w1 ⟨rfl, rfl⟩
 go_wp2
 go_ret
 exact ⟨rfl, rfl⟩
/-- A block of matrices. -/
def RdM (w : World) (g n : Nat) (p : Int) : Prop := ∀ k, k < n → ∃ (A : Option Addr) (r c m : Nat) (M : List (List Int)), w.cell? ⟨g, k, none⟩ = some (.slice A r c) ∧ RdII w A r M ∧ Tab p m M ∧ 0 < r ∧ r ≤ 16 ∧ 1 ≤ m ∧ m ≤ 16
theorem RdM.below {w w' : World} {g n : Nat} {p : Int} (h : RdM w g n p) (hb : Below w.heap.size w w') : RdM w' g n p := fun k hk => by
 obtain ⟨A, r, c, m, M, h1, h2, h3⟩ := h k hk
 exact ⟨A, r, c, m, M, (hb.cell (World.block_lt_of_cell? _ _ h1)).trans h1, h2.below hb, h3⟩
set_option maxHeartbeats 800000 in
set_option maxRecDepth 8000 in
theorem IndexFuncM_no (f : FuncId) (q : Addr) (p : Int) (g n c : Nat) (w : World) (hn : n ≤ 1000) (ha : RdM w g n p) (hf : ∀ (w' : World) (A : Option Addr) (r c m : Nat) (M : List (List Int)), Below w.heap.size w w' → RdII w' A r M → Tab p m M → 0 < r → r ≤ 16 → 1 ≤ m → m ≤ 16 → Calls Tryz.prog f #[.slice A r c, .pointer (some q)] w' fun e w'' => e = .returned (.bool false) ∧ Below w'.heap.size w' w'') (hcf : ∀ (args : Array Value) (w : World), (callFunc f args).run Tryz.prog w = .ok (.enter f args) w) :
    Calls Tryz.prog 253 #[.slice (some ⟨g, 0, none⟩) n c, .func (.func f) #[] #[.pointer (some q)]] w fun e w' => e = .returned (.int .i64 (-1)) ∧ Below w.heap.size w w' := by
 go_enter Tryz.func253, Tryz.ntmps253
 go_wp2
 go_loopw [8] (fun i wr => ∃ k : Nat, k ≤ n ∧ i = .int .i64 k ∧ Below w.heap.size w wr) (fun i _ => n - (intOf i).toNat)
 case atStart => exact ⟨0, by omega, rfl, Below.refl _ _⟩
 case round =>
  obtain ⟨k, hk, rfl, hB⟩ := hrel
  by_cases hlt : k < n
  · obtain ⟨A, r, c', m, M, hcx, h1, h2, h3, h4, h5, h6⟩ := (ha.below hB) k hlt
    have hcall := hf _ A r c' m M hB h1 h2 h3 h4 h5 h6
    clear ha hf h1 h2
    go_wp2_with fail
    refine hcall.mono ?_
    rintro e w1 ⟨rfl, hb1⟩
    go_wp2
    go_roundw
    case rel => exact ⟨k + 1, by omega, by go_num, hB.trans (hb1.mono hB.size)⟩
    case measure => simp [intOf]; omega
  · go_wp2
    go_ret
    exact ⟨rfl, hB⟩
set_option maxHeartbeats 400000 in
set_option maxRecDepth 8000 in
theorem ContainsFuncM_no (f : FuncId) (q : Addr) (p : Int) (g n c : Nat) (w : World) (hn : n ≤ 1000) (ha : RdM w g n p) (hf : ∀ (w' : World) (A : Option Addr) (r c m : Nat) (M : List (List Int)), Below w.heap.size w w' → RdII w' A r M → Tab p m M → 0 < r → r ≤ 16 → 1 ≤ m → m ≤ 16 → Calls Tryz.prog f #[.slice A r c, .pointer (some q)] w' fun e w'' => e = .returned (.bool false) ∧ Below w'.heap.size w' w'') (hcf : ∀ (args : Array Value) (w : World), (callFunc f args).run Tryz.prog w = .ok (.enter f args) w) :
    Calls Tryz.prog 193 #[.slice (some ⟨g, 0, none⟩) n c, .func (.func f) #[] #[.pointer (some q)]] w fun e w' => e = .returned (.bool false) ∧ Below w.heap.size w w' := by
 have h := IndexFuncM_no f q p g n c w hn ha hf hcf
 clear hf
 go_enter Tryz.func193, Tryz.ntmps193
 go_wp2_with fail
 refine h.mono ?_
 rintro e w1 ⟨rfl, hb⟩
 go_wp2
 go_ret
 exact ⟨rfl, hb⟩
set_option maxHeartbeats 800000 in
set_option maxRecDepth 8000 in
theorem notMatrix_no (p : Int) (b : Nat) (A : Option Addr) (r c m : Nat) (M : List (List Int)) (w : World) (hp0 : 0 < p) (hp1 : p ≤ 13) (hk : Blk w b 2 #[.int .i64 p]) (ha : RdII w A r M) (hT : Tab p m M) (h3 : 0 < r) (h4 : r ≤ 16) (h5 : 1 ≤ m) (h6 : m ≤ 16) :
    Calls Tryz.prog 194 #[.slice A r c, .pointer (some ⟨b, 0, none⟩)] w fun e w' => e = .returned (.bool false) ∧ Below w.heap.size w w' := by
 have h := isMatrix_ok p A r c M m w hp0 hp1 h3 h4 h5 h6 ha hT
 have q0 : w.cell? ⟨b, 0, none⟩ = some (.int .i64 p) := by rw [hk.cell]; rfl
 clear hT ha
 go_enter Tryz.func194, Tryz.ntmps194
 go_wp2_with fail
 refine h.mono ?_
 rintro e w1 ⟨rfl, rfl⟩
 go_wp2
 go_ret
 exact ⟨rfl, Below.refl _ _⟩
set_option maxHeartbeats 800000 in
set_option maxRecDepth 8000 in
theorem checkMatrices_ok (p : Int) (g n c : Nat) (w : World) (HP : isP p = true) (hn : n ≤ 1000) (ha : RdM w g n p) :
    Calls Tryz.prog 88 #[.int .i64 p, .slice (some ⟨g, 0, none⟩) n c] w fun e w' => e = .returned (.int .i64 0) ∧ Below w.heap.size w w' := by
 obtain ⟨hp3, hp2⟩ := isP_ge HP
 have hB : Below w.heap.size w (w.alloc (.cells #[.int .i64 p] 2)) := zG.alloc (Nat.le_refl _) _
 have k0 : Blk (w.alloc (.cells #[.int .i64 p] 2)) w.heap.size 2 #[.int .i64 p] := Blk.new _ _ _
 have hmf : ∀ (fn : Fn) (first cap : Array Value) (w : World), (Instr.makeFunc fn first cap).run Tryz.prog w = .ok (.func fn first cap) w := fun _ _ _ _ => rfl
 have hip := IsPrime_b p (w.alloc (.cells #[.int .i64 p] 2)) HP
 have hcf := ContainsFuncM_no 194 ⟨w.heap.size, 0, none⟩ p g n c (w.alloc (.cells #[.int .i64 p] 2)) hn (ha.below hB) (fun w' A r c' m M hb h1 h2 h3 h4 h5 h6 => notMatrix_no p w.heap.size A r c' m M w' (by omega) hp2 (k0.below hb k0.lt) h1 h2 h3 h4 h5 h6) (fun _ _ => rfl)
 clear HP ha
 go_enter Tryz.func88, Tryz.ntmps88
 go_wp2_with fail
 refine hip.mono ?_
 rintro e w1 ⟨rfl, rfl⟩
 go_wp2_with fail
 refine hcf.mono ?_
 rintro e w2 ⟨rfl, hb2⟩
 go_wp2
 go_ret
 exact ⟨rfl, hB.trans (hb2.mono hB.size)⟩
set_option maxHeartbeats 800000 in
set_option maxRecDepth 8000 in
theorem checkSquare_ok (p : Int) (A : Option Addr) (n c : Nat) (M : List (List Int)) (w : World) (HP : isP p = true) (hn0 : 0 < n) (hn : n ≤ 16) (ha : RdII w A n M) (hM : Tab p n M) :
    Calls Tryz.prog 91 #[.int .i64 p, .slice A n c] w fun e w' => e = .returned (.int .i64 0) ∧ Below w.heap.size w w' := by
 have hB : Below w.heap.size w (w.alloc (.cells #[.slice A n c] 27)) := zG.alloc (Nat.le_refl _) _
 have hkn : Blk (w.alloc (.cells #[.slice A n c] 27)) w.heap.size 27 #[.slice A n c] := Blk.new _ _ _
 have hrm : RdM (w.alloc (.cells #[.slice A n c] 27)) w.heap.size 1 p := fun k hk => ⟨A, n, c, n, M, by (obtain rfl : k = 0 := by omega); rw [hkn.cell]; rfl, ha.below hB, hM, by omega, hn, by omega, hn⟩
 have hck := checkMatrices_ok p w.heap.size 1 1 (w.alloc (.cells #[.slice A n c] 27)) HP (by omega) hrm
 clear hrm hkn
 have HM := Lib.hid hM
 clear hM
 go_enter Tryz.func91, Tryz.ntmps91
 go_wp2_with fail
 refine hck.mono ?_
 rintro e w1 ⟨rfl, hb1⟩
 have hB1 := hB.trans (hb1.mono hB.size)
 obtain ⟨g, o, rfl, hx0, A0, c0, hc0, -, -⟩ := (ha.below hB1).at_ hn0
 rw [(HM.out M[0] (List.getElem_mem hx0)).1, Nat.add_zero] at hc0
 have t4 : ((n : Int) != (n : Int)) = false := by simp
 clear hck ha
 go_wp2
 go_ret
 exact ⟨rfl, hB1⟩
set_option maxHeartbeats 800000 in
set_option maxRecDepth 8000 in
theorem MultiplyMatrices_ok (p : Int) (A : Option Addr) (n c : Nat) (M : List (List Int)) (B : Option Addr) (d : Nat) (N : List (List Int)) (w : World) (HP : isP p = true) (hn0 : 0 < n) (hn : n ≤ 16) (ha : RdII w A n M) (hM : Tab p n M) (hb : RdII w B n N) (hN : Tab p n N) :
    Calls Tryz.prog 24 #[.int .i64 p, .slice A n c, .slice B n d] w fun e w' => ∃ (A' : Option Addr) (c' : Nat), e = .returned (.tuple #[.slice A' n c', .int .i64 0]) ∧ MkII w w' A' n c' (timesM p M N) := by
 obtain ⟨hp3, hp2⟩ := isP_ge HP
 have hB : Below w.heap.size w (w.alloc (.cells #[.slice A n c, .slice B n d] 27)) := zG.alloc (Nat.le_refl _) _
 have hkn : Blk (w.alloc (.cells #[.slice A n c, .slice B n d] 27)) w.heap.size 27 #[.slice A n c, .slice B n d] := Blk.new _ _ _
 have hrm : RdM (w.alloc (.cells #[.slice A n c, .slice B n d] 27)) w.heap.size 2 p := fun k hk => by
  rcases Nat.lt_or_ge k 1 with h | h
  · obtain rfl : k = 0 := by omega
    exact ⟨A, n, c, n, M, by rw [hkn.cell]; rfl, ha.below hB, hM, by omega, hn, by omega, hn⟩
  · obtain rfl : k = 1 := by omega
    exact ⟨B, n, d, n, N, by rw [hkn.cell]; rfl, hb.below hB, hN, by omega, hn, by omega, hn⟩
 have hck := checkMatrices_ok p w.heap.size 2 2 (w.alloc (.cells #[.slice A n c, .slice B n d] 27)) HP (by omega) hrm
 have hti := Lib.hid fun w' (h : Below w.heap.size w w') => timesM_any p A n c M B d N w' (by omega) hp2 hn0 (by omega) (ha.below h) hM (hb.below h) hN
 clear hrm hkn hN hb HP
 have HM := Lib.hid hM
 clear hM
 go_enter Tryz.func24, Tryz.ntmps24
 go_wp2_with fail
 refine hck.mono ?_
 rintro e w1 ⟨rfl, hb1⟩
 have hB1 := hB.trans (hb1.mono hB.size)
 have hcall := hti.out w1 hB1
 obtain ⟨g, o, rfl, hx0, A0, c0, hc0, -, -⟩ := (ha.below hB1).at_ hn0
 rw [(HM.out M[0] (List.getElem_mem hx0)).1, Nat.add_zero] at hc0
 have t4 : ((n : Int) != (n : Int)) = false := by simp
 clear hck ha hti
 go_wp2_with fail
 refine hcall.mono ?_
 rintro e w2 ⟨A', c', rfl, hMM⟩
 go_wp2
 go_ret2
 exact ⟨A', c', rfl, hMM.after hB1⟩
def MkO (w0 w : World) (A : Option Addr) (n c : Nat) (xss : List (List Int)) : Prop := ∃ rows, Mk w0 w 24 A n c rows ∧ rows.length = xss.length ∧
 ∀ (k : Nat) (h : k < xss.length), ∃ A' c', rows[k]? = some (.slice A' xss[k].length c') ∧ Own w 0 2 A' xss[k].length c' (ints xss[k])
theorem MkII.o {w0 w : World} {A : Option Addr} {n c : Nat} {xss : List (List Int)} (h : MkII w0 w A n c xss) : MkO w0 w A n c xss := by
 obtain ⟨rows, hm, hn⟩ := h
 exact ⟨rows, hm, hn.len, fun k hk => by obtain ⟨A', c', e, ho⟩ := hn.row k hk; exact ⟨A', c', e, ho.base (Nat.zero_le _)⟩⟩
theorem MkO.rd {w0 w : World} {A : Option Addr} {n c : Nat} {xss : List (List Int)} (h : MkO w0 w A n c xss) : RdII w A n xss := by
 obtain ⟨rows, hm, hl, hk⟩ := h
 exact ⟨rows, hm.rd, hl, fun k hlt => by obtain ⟨A', c', e, ho⟩ := hk k hlt; exact ⟨A', c', e, ho.rd, ho.cap⟩⟩
theorem MkO.b {w0 w : World} {A : Option Addr} {n c : Nat} {xss : List (List Int)} (h : MkO w0 w A n c xss) : Below w0.heap.size w0 w := by
 obtain ⟨_, hm, _⟩ := h; exact hm.1
theorem MkO.below {w0 w w' : World} {A : Option Addr} {n c : Nat} {xss : List (List Int)} (h : MkO w0 w A n c xss) (hb : Below w.heap.size w w') : MkO w0 w' A n c xss := by
 obtain ⟨rows, hm, hl, hk⟩ := h
 exact ⟨rows, hm.below hb, hl, fun k hlt => by obtain ⟨A', c', e, ho⟩ := hk k hlt; exact ⟨A', c', e, ho.below hb⟩⟩
theorem MkO.ne_blk {w0 w : World} {A : Option Addr} {n c g : Nat} {xss : List (List Int)} {t : TypeId} {cs : Array Value} (h : MkO w0 w A n c xss) (hb : Blk w g t cs) (hE : 24 ≠ t) : some g ≠ (Value.slice A n c).ownBlock := by
 obtain ⟨rows, hm, _⟩ := h
 exact hm.2.ne_blk hb hE
/-- A row that lies there is appended. -/
theorem wpList_appRowO {ops : Array Oper} {rest : List Oper} {o : Oper} {a : Act} {Q : Exit → Act → World → Prop} (w0 w1 : World)
    (hgd : o.guard = none) (s x : Operand) (ho : o.op = .call { callee := .builtin .append, args := #[s, x], argTypes := #[27, 27] })
    (A : Option Addr) (n c : Nat) (xss : List (List Int)) (A1 : Option Addr) (m c1 : Nat) (xs : List Int) (hM : MkO w0 w1 A n c xss) (hr : Own w1 0 2 A1 m c1 (ints xs)) (hn : n ≤ 1099511627776)
    (hs : a.eval s = .slice A n c) (hx : a.eval x = .slice (some ⟨w1.heap.size, 0, none⟩) 1 1)
    (h : ∀ A' c' w', MkO w0 w' A' (n + 1) c' (xss ++ [xs]) → w1.grownBy w' (Value.slice A n c).ownBlock → (∃ g, A' = some ⟨g, 0, none⟩ ∧ ((Value.slice A n c).ownBlock = some g ∨ w1.heap.size ≤ g)) → wpList Tryz.prog ops Q rest (a.put o.dst (.slice A' (n + 1) c')) w') :
    wpList Tryz.prog ops Q (o :: rest) a (w1.alloc (.cells #[.slice A1 m c1] 24)) := by
 obtain ⟨rows, hm, hl, hrow⟩ := hM
 have hml : xs.length = m := by have := hr.len; rwa [ints_length] at this
 subst hml
 refine wpList_app1 w0 w1 27 24 (.slice none 0 0) 24 Tryz.underlying27 info_s rfl (by omega) hgd s x ho A n c rows (.slice A1 xs.length c1) hm hn rfl hs hx ?_
 intro A' c' w' hM' hg hat
 refine h A' c' w' ⟨_, hM', by simp [hl], fun k hk => ?_⟩ hg hat
 by_cases hlt : k < xss.length
 · obtain ⟨A2, c2, e, ho2⟩ := hrow k hlt
   simp only [List.getElem_append_left hlt]
   exact ⟨A2, c2, by rw [List.getElem?_append_left (by omega)]; exact e, ho2.grown hg (ho2.ne hm.2 (by decide))⟩
 · have hk' : k = xss.length := by simp at hk; omega
   subst hk'
   simp only [List.getElem_append_right (Nat.le_refl _), Nat.sub_self, List.getElem_cons_zero]
   exact ⟨A1, c1, by rw [List.getElem?_append_right (by omega), hl, Nat.sub_self]; rfl, hr.grown hg (hr.ne hm.2 (by decide))⟩
end Go.Proofs.YtmkjdpnoloofjaaGreat
namespace Go.Proofs.YtmkjdpnoloofjaaGreat
theorem zeroL_iff (xs : List Int) : zeroL xs = true ↔ ∀ y ∈ xs, y = 0 := by
 unfold zeroL
 rw [beq_iff_eq]
 constructor
 · intro h y hy
   obtain ⟨i, hi, rfl⟩ := List.getElem_of_mem hy
   have := leadL_before xs i (by omega)
   rwa [getD_of_lt 0 hi] at this
 · intro h
   refine Classical.byContradiction fun hne => ?_
   have hlt : leadL xs < xs.length := by have := leadL_le xs; omega
   exact leadL_at xs hlt (h _ (getD_mem 0 hlt))
section
variable {p : Int} {n : Nat}
end
section
variable {P : Int} {sq xs v : List Int}
end
end Go.Proofs.YtmkjdpnoloofjaaGreat
namespace Go.Proofs.YtmkjdpnoloofjaaGreat
open Go.RowKit
def CK (w w' : World) : Prop := ∀ b i u, w.cell? ⟨b, i, none⟩ = some u → w'.cell? ⟨b, i, none⟩ = some u
theorem CK.refl (w : World) : CK w w := fun _ _ _ h => h
theorem Rd.ck {w w' : World} {A : Option Addr} {n : Nat} {us : List Value} (h : Rd w A n us) (k : CK w w') : Rd w' A n us := ⟨h.1, fun hn => by
 obtain ⟨g, o, e, hc⟩ := h.2 hn
 exact ⟨g, o, e, fun j u hu => k _ _ _ (hc j u hu)⟩⟩
theorem RdII.ck {w w' : World} {A : Option Addr} {n : Nat} {xss : List (List Int)} (h : RdII w A n xss) (k : CK w w') : RdII w' A n xss := by
 obtain ⟨rows, hr, hl, hk⟩ := h
 exact ⟨rows, hr.ck k, hl, fun j hj => by obtain ⟨A', c', e, h1, h2⟩ := hk j hj; exact ⟨A', c', e, h1.ck k, h2⟩⟩
/-- A row that grows; it began as the empty block g; what lay in w is as it was. -/
def Grows (w wr : World) (g : Nat) (v : Value) : Prop := CK w wr ∧ w.heap.size ≤ wr.heap.size ∧ ∀ gb, v.ownBlock = some gb → gb = g ∨ w.heap.size ≤ gb
theorem Grows.step {w wr v1 w' : World} {g : Nat} {T : TypeId} {A A' : Option Addr} {n c n' c' : Nat} (h : Grows w wr g (.slice A n c)) (he : Blk w g T #[]) (hb : Below wr.heap.size wr v1) (hg : v1.grownBy w' (Value.slice A n c).ownBlock)
    (hat : ∃ g', A' = some ⟨g', 0, none⟩ ∧ ((Value.slice A n c).ownBlock = some g' ∨ v1.heap.size ≤ g')) : Grows w w' g (.slice A' n' c') := by
 obtain ⟨h1, h2, h3⟩ := h
 refine ⟨fun b i u hu => ?_, by have := hb.size; have := hg.size; omega, fun gb hgb => ?_⟩
 · refine hg.cell ((hb.cell (World.block_lt_of_cell? _ _ (h1 b i u hu))).trans (h1 b i u hu)) fun e => ?_
   rcases h3 b e.symm with rfl | hge
   · rw [he.cell] at hu; simp at hu
   · have hlt : b < w.heap.size := World.block_lt_of_cell? _ _ hu
     omega
 · obtain ⟨g', rfl, hor⟩ := hat
   simp only [Value.ownBlock, Option.some.injEq] at hgb
   subst hgb
   rcases hor with hor | hor
   · exact h3 _ hor
   · right; have := hb.size; omega
end Go.Proofs.YtmkjdpnoloofjaaGreat
namespace Go.Proofs.YtmkjdpnoloofjaaGreat
section
variable {P : Int} {sq : List Int}
theorem regB_at {sq : List Int} {x : Int} (h : regB sq = true) (hx : x ∈ sq) : x ≠ 0 := fun e => by
 subst e
 unfold regB at h
 simp only [Bool.not_eq_true', List.contains_eq_mem, decide_eq_false_iff_not] at h
 exact h hx
end
/-- Is it a square matrix with n rows of numbers? -/
def frB (P : Int) (n : Nat) (M : List (List Int)) : Bool := M.length == n && M.all fun r => r.length == n && nums P r
theorem frB_iff {P : Int} {n : Nat} {M : List (List Int)} : frB P n M = true ↔ M.length = n ∧ Tab P n M := by
 unfold frB
 rw [Bool.and_eq_true, beq_iff_eq, List.all_eq_true]
 refine and_congr Iff.rfl ⟨fun h x hx => ?_, fun h x hx => ?_⟩
 · have := h x hx
   rw [Bool.and_eq_true, beq_iff_eq] at this
   exact ⟨this.1, nums_numsL this.2⟩
 · obtain ⟨h1, h2⟩ := h x hx
   rw [Bool.and_eq_true, beq_iff_eq]
   exact ⟨h1, List.all_eq_true.2 fun y hy => by have := h2 y hy; simp [inR]; omega⟩
def isoB (P : Int) (sq : List Int) (M : List (List Int)) : Bool := frB P sq.length M && (decide (detL P M ≠ 0) && decide (∀ i, i < sq.length → ∀ k, k < sq.length → pairL P sq ((transL M).getD i []) ((transL M).getD k []) = if i = k then sq.getD i 0 else 0))
section
variable {p : Int} {sq : List Int} {M : List (List Int)}
/-- The squares as a matrix. -/
def Wm (hp : 0 < p) (sq : List Int) : Mt p sq.length := Mt.of hp fun i j => if i = j then sq.getD i 0 else 0
theorem Wm_at (hp : 0 < p) {i j : Nat} (hi : i < sq.length) (hj : j < sq.length) : (Wm hp sq).at i j % p = (if i = j then sq.getD i 0 else 0) % p := Mt.of_cg hp (fun i j => if i = j then sq.getD i 0 else 0) hi hj
theorem mul_Wm (hp : 0 < p) (x : Mt p sq.length) {i j : Nat} (hi : i < sq.length) (hj : j < sq.length) : (x * Wm hp sq).at i j % p = (x.at i j * sq.getD j 0) % p := by
 rw [Mt.mul_at _ _ hi hj]
 have h : (sumTo sq.length fun k => x.at i k * (Wm hp sq).at k j) % p = (sumTo sq.length fun k => x.at i k * (if k = j then sq.getD k 0 else 0)) % p := sumTo_mod p fun k hk => cg_mul rfl (Wm_at hp hk hj)
 rw [h, sumTo_one j hj fun k _ hne => by rw [if_neg hne, Int.mul_zero], if_pos rfl]
theorem trans_row (hp : 0 < p) (hT : Tab p sq.length M) (hl : M.length = sq.length) {i : Nat} (hi : i < sq.length) : ((transL M).getD i []).length = sq.length ∧ NumsL p ((transL M).getD i []) := by
 obtain ⟨t1, t2⟩ := trans_ok hp hT hl (by omega)
 exact t1.row (by omega)
theorem pairL_range (hp : 0 < p) (v u : List Int) : 0 ≤ pairL p sq v u ∧ pairL p sq v u < p := by
 unfold pairL dotL
 exact ⟨Int.emod_nonneg _ (by omega), Int.emod_lt_of_pos _ hp⟩
theorem pair_cols (hp : 0 < p) (hT : Tab p sq.length M) (hl : M.length = sq.length) {i k : Nat} (hi : i < sq.length) (hk : k < sq.length) :
    pairL p sq ((transL M).getD i []) ((transL M).getD k []) % p = ((Mt.mk' hp hT hl).tr * Wm hp sq * Mt.mk' hp hT hl).at i k % p := by
 rw [pairL_bil (trans_row hp hT hl hi).1, Mt.mul_at _ _ hi hk]
 unfold bil
 refine sumTo_mod p fun r hr => ?_
 rw [cg_mul ((mul_Wm hp _ hi hr).trans (cg_mul (Mt.tr_at _ hi hr) rfl)) rfl]
 have e1 : ((transL M).getD i []).getD r 0 = ent M r i := trans_at hT hl (by omega) hi hr
 have e2 : ((transL M).getD k []).getD r 0 = ent M r k := trans_at hT hl (by omega) hk hr
 rw [e1, e2]
 show _ = (ent M r i * sq.getD r 0 * ent M r k) % p
 congr 1; grind
theorem iso_iff (hp : 0 < p) (hs : NumsL p sq) (hT : Tab p sq.length M) (hl : M.length = sq.length) : isoB p sq M = true ↔ detL p M ≠ 0 ∧ (Mt.mk' hp hT hl).tr * Wm hp sq * Mt.mk' hp hT hl = Wm hp sq := by
 unfold isoB
 rw [frB_iff.2 ⟨hl, hT⟩, Bool.true_and, Bool.and_eq_true, decide_eq_true_iff, decide_eq_true_iff]
 refine and_congr Iff.rfl ⟨fun h => Mt.same fun i k hi hk => ?_, fun h i hi k hk => ?_⟩
 · rw [← pair_cols hp hT hl hi hk, h i hi k hk, Wm_at hp hi hk]
 · have e := pair_cols hp hT hl hi hk
   rw [h, Wm_at hp hi hk] at e
   refine cg_eq (pairL_range hp _ _) ?_ e
   split
   · exact hs.getD hp i
   · omega
end
section
variable {p : Int} {n : Nat}
end
section
variable {p : Int} {sq : List Int}
/-- A column. -/
def Mt.col {n : Nat} (x : Mt p n) (i : Nat) : List Int := (transL x.l).getD i []
theorem Mt.col_ok {n : Nat} (x : Mt p n) {i : Nat} (hi : i < n) : (x.col i).length = n ∧ NumsL p (x.col i) := by
 obtain ⟨h1, h2⟩ := trans_ok x.pos x.tab x.len (by omega)
 exact h1.row (by omega)
theorem Mt.col_at {n : Nat} (x : Mt p n) {i j : Nat} (hi : i < n) (hj : j < n) : (x.col i).getD j 0 = x.at j i := trans_at x.tab x.len (by omega) hi hj
theorem Mt.ext_col {n : Nat} {x y : Mt p n} (h : ∀ i, i < n → x.col i = y.col i) : x = y := Mt.same fun i j hi hj => by
 rw [← Mt.col_at x hj hi, ← Mt.col_at y hj hi, h j hj]
theorem Mt.one_col {n : Nat} (hp : 2 ≤ p) {i : Nat} (hi : i < n) : (Mt.one (by omega) : Mt p n).col i = unitRow n i := by
 have hok := Mt.col_ok (Mt.one (p := p) (n := n) (by omega)) hi
 refine list_ext_getD 0 (by rw [hok.1, unitRow_len]) fun j hj => ?_
 rw [hok.1] at hj
 rw [Mt.col_at _ hi hj, unitRow_ent hi hj]
 refine cg_eq (Mt.small _ _ _) ?_ ?_
 · split <;> omega
 · rw [Mt.one_at (by omega) hj hi]
   by_cases h : i = j
   · subst h; rfl
   · rw [if_neg h, if_neg fun e => h e.symm]
/-- The matrix of a reflection. -/
def Mt.refl (hp : 2 ≤ p) (h0 : 0 < sq.length) (u : List Int) : Mt p sq.length := ⟨rmatL p sq sq.length u, rmatL_len hp sq h0 u, rmatL_tab hp sq sq.length u, by omega⟩
theorem Mt.refl_col (hp : 2 ≤ p) (h0 : 0 < sq.length) (u : List Int) {i : Nat} (hi : i < sq.length) : (Mt.refl hp h0 u).col i = rflL p sq u (unitRow sq.length i) := by
 have hok := Mt.col_ok (Mt.refl hp h0 u) hi
 refine list_ext_getD 0 (by rw [hok.1, rflL_len, unitRow_len]) fun j hj => ?_
 rw [hok.1] at hj
 rw [Mt.col_at _ hi hj]
 show ent (rmatL p sq sq.length u) j i = _
 unfold rmatL
 rw [trans_at (rcolsL_tab hp sq sq.length u) (rcolsL_len _ _ _ _) h0 hj hi]
 unfold ent rcolsL
 rw [tab_getD hi]
theorem bil_urow {u : List Int} {i : Nat} (hi : i < sq.length) : bil sq u (unitRow sq.length i) = u.getD i 0 * sq.getD i 0 := by
 unfold bil
 rw [sumTo_one i hi fun k hk hne => by rw [unitRow_ent hi hk, if_neg (fun e => hne e.symm), Int.mul_zero, Int.zero_mul], unitRow_ent hi hi, if_pos rfl, Int.mul_one]
theorem Mt.refl_at (hP : isP p = true) (hp : 2 ≤ p) (h0 : 0 < sq.length) {u : List Int} (hu : u.length = sq.length) {i j : Nat} (hi : i < sq.length) (hj : j < sq.length) :
    (Mt.refl hp h0 u).at i j % p = ((if i = j then 1 else 0) + -(2 * (u.getD j 0 * sq.getD j 0) * invF p (bil sq u u % p)) * u.getD i 0) % p := by
 rw [← Mt.col_at _ hj hi, Mt.refl_col hp h0 u hj, rflL_reflF hP hu]
 unfold reflF
 rw [plusL_getD _ _ (by rw [unitRow_len]; exact hi), cg_self, bil_urow hj, unitRow_ent hj hi]
 by_cases h : i = j
 · subst h; rfl
 · rw [if_neg h, if_neg fun e => h e.symm]
/-- A reflection's matrix times another one: its columns reflected. -/
theorem Mt.refl_mul (hP : isP p = true) (hp : 2 ≤ p) (h0 : 0 < sq.length) {u : List Int} (hu : u.length = sq.length) (x : Mt p sq.length) {j : Nat} (hj : j < sq.length) : (Mt.refl hp h0 u * x).col j = reflF p sq u (x.col j) := by
 have hok := Mt.col_ok (Mt.refl hp h0 u * x) hj
 have hox := Mt.col_ok x hj
 refine list_ext_getD 0 (by rw [hok.1, reflF_len, hox.1]) fun i hi => ?_
 rw [hok.1] at hi
 rw [Mt.col_at _ hj hi]
 have hn := reflF_nums (sq := sq) (show 0 < p by omega) u (x.col j)
 refine cg_eq (Mt.small _ _ _) (hn.getD (by omega) i) ?_
 unfold reflF
 rw [plusL_getD _ _ (by omega), cg_self, Mt.mul_at _ _ hi hj, Mt.col_at x hj hi]
 obtain ⟨v, hv⟩ : ∃ v, v = invF p (bil sq u u % p) := ⟨_, rfl⟩
 rw [← hv]
 have e1 : (sumTo sq.length fun q => (Mt.refl hp h0 u).at i q * x.at q j) % p = (sumTo sq.length fun q => (if i = q then x.at q j else 0) + (-(2 * v) * u.getD i 0) * (u.getD q 0 * (x.col j).getD q 0 * sq.getD q 0)) % p := sumTo_mod p fun q hq => by
  refine (cg_mul (Mt.refl_at hP hp h0 hu hi hq) rfl).trans ?_
  rw [← hv, Mt.col_at x hj hq]
  congr 1
  by_cases h : i = q
  · subst h; rw [if_pos rfl, if_pos rfl]; grind
  · rw [if_neg h, if_neg h]; grind
 rw [e1, sumTo_add, sumTo_mul, sumTo_one i hi fun q _ hne => by rw [if_neg fun e => hne e.symm], if_pos rfl]
 congr 1
 unfold bil
 obtain ⟨S, hS⟩ : ∃ S, S = sumTo sq.length fun i => u.getD i 0 * (x.col j).getD i 0 * sq.getD i 0 := ⟨_, rfl⟩
 rw [← hS]
 grind
/-- Twice the same reflection. -/
theorem Mt.refl_two (hP : isP p = true) (hp : 2 ≤ p) (h0 : 0 < sq.length) {u : List Int} (hu : u.length = sq.length) (hne : bil sq u u % p ≠ 0) : Mt.refl hp h0 u * Mt.refl hp h0 u = Mt.one (by omega) := Mt.ext_col fun i hi => by
 rw [Mt.refl_mul hP hp h0 hu _ hi, Mt.refl_col hp h0 u hi, rflL_reflF hP hu, refl_refl hP (unitRow_len _ _) (unitRow_nums hp _ _) hne, Mt.one_col hp hi]
end
end Go.Proofs.YtmkjdpnoloofjaaGreat
namespace Go.Proofs.YtmkjdpnoloofjaaGreat
open Go.RowKit
set_option maxHeartbeats 1600000 in
set_option maxRecDepth 8000 in
theorem matrixBy_any (f : FuncId) (p1 p2 : Addr) (G : Nat → List Int) (hcf : ∀ (args : Array Value) (w : World), (callFunc f args).run Tryz.prog w = .ok (.enter f args) w) (P : Int) (A : Option Addr) (n c : Nat) (w : World) (hp : 2 ≤ P) (hn : n ≤ 6) (h0 : 0 < n) (hG : ∀ k, k < n → (G k).length = n ∧ NumsL P (G k))
    (hof : ∀ (k : Nat) (w' : World) (Y : Option Addr) (cy : Nat), k < n → Below w.heap.size w w' → Rd w' Y n (ints (unitRow n k)) → n ≤ cy → Calls Tryz.prog f #[.slice Y n cy, .pointer (some p1), .pointer (some p2)] w' fun e w5 => ∃ A5 c5, e = .returned (.slice A5 n c5) ∧ MkI w' w5 A5 n c5 (G k)) :
    Calls Tryz.prog 99 #[.agg #[.int .i64 P, .slice A n c], .func (.func f) #[] #[.pointer (some p1), .pointer (some p2)]] w fun e w' => ∃ A' c', e = .returned (.slice A' n c') ∧ MkII w w' A' n c' (transL (tab n G)) := by
 have hB0 : Below w.heap.size w (w.alloc (.cells #[.int .i64 P, .slice A n c] 26)) := zG.alloc (Nat.le_refl _) _
 have k0 : Blk (w.alloc (.cells #[.int .i64 P, .slice A n c] 26)) w.heap.size 26 #[.int .i64 P, .slice A n c] := Blk.new _ _ _
 have hB1 := hB0.alloc (by simp) (.cells #[] 24)
 have k1 := k0.alloc (.cells #[] 24)
 have hM1 : MkII w ((w.alloc (.cells #[.int .i64 P, .slice A n c] 26)).alloc (.cells #[] 24)) (some ⟨w.heap.size + 1, 0, none⟩) 0 0 [] := by
  have := MkII.empty hB0
  simpa using this
 clear k0
 obtain ⟨q0, q1⟩ := k1.two
 have HG := Lib.hid hG
 have HOF := Lib.hid hof
 clear hG hof
 go_enter Tryz.func99, Tryz.ntmps99
 go_wp2_with fail
 refine (dim_any _ _ _ _ _).mono ?_
 rintro e w2 ⟨rfl, hb2⟩
 have hM2 := hM1.below hb2
 have hB2 := hB1.trans (hb2.mono hB1.size)
 clear hM1 q0 q1 k1 hB0 hB1
 go_wp2_with fail
 refine (unit_any n _ (by omega)).mono ?_
 rintro e w3 ⟨U, cU, rfl, hU⟩
 have hM3 := hM2.below hU.b
 have hB3 := hB2.trans (hU.b.mono hB2.size)
 have hsz2 : w.heap.size + 1 < w2.heap.size := by have := hb2.size; simp at this; omega
 have hKp : Keeps w2 w3 w3 (.slice (some ⟨w.heap.size + 1, 0, none⟩) 0 0) := ⟨Nat.le_refl _, fun _ _ _ => rfl, fun gb e => .inl (lt_of_own e hsz2)⟩
 clear hM2 hB2 hb2 hsz2
 go_wp2
 go_loopw [5, 13] (fun out i wr => ∃ (k : Nat) (A' : Option Addr) (c' : Nat), k ≤ n ∧ i = .int .i64 k ∧ out = .slice A' k c' ∧ MkII w wr A' k c' (tab k G) ∧ Keeps w2 w3 wr (.slice A' k c')) (fun _ i _ => n - (intOf i).toNat)
 case atStart => exact ⟨0, _, _, by omega, rfl, rfl, by simpa [tab] using hM3, hKp⟩
 case round =>
  obtain ⟨k, A', c', hk, rfl, rfl, hM, hB4⟩ := hrel
  clear hM3 hKp
  by_cases hlt : k < n
  · obtain ⟨gu, ou, rfl, hxk, A1, c1, hcu, hru, hcc⟩ := (hU.keep hB4.2.1).at_ hlt
    have hrow := unitM_get n k hxk
    rw [hrow, unitRow_len] at hru hcu hcc
    have hcall := HOF.out k wr A1 c1 hlt hM.b hru hcc
    have HM := Lib.hid hM
    have HB4 := Lib.hid hB4
    clear hM hru hrow hB4
    go_wp2_with fail
    refine hcall.mono ?_
    rintro e w5 ⟨A5, c5, rfl, hM5⟩
    clear hcall
    go_wp2_with (at_builtin; refine wpList_appRowG w wr _ rfl _ _ rfl A' k c' _ A5 n c5 _ HM.out hM5 (by omega) rfl ?_ ?_; (go_simp); intro A6 c6 w6 hM6 hg6 hat6)
    go_roundw
    case rel => exact ⟨k + 1, A6, c6, by omega, by go_num, rfl, by rw [tab_succ]; exact hM6, HB4.out.step hM5.b hg6 hat6⟩
    case measure => simp [intOf]; omega
  · obtain rfl : k = n := by omega
    go_wp2_with fail
    refine (transpose_any P A' k c' (tab k G) k _ h0 (by omega) (by omega) hM.rd (Tab.tab HG.out)).mono ?_
    rintro e w5 ⟨A5, c5, rfl, hM5⟩
    go_wp2
    go_ret
    exact ⟨_, _, rfl, hM5.after hM.b⟩
/-- The columns of a versor's matrix, and the matrix. -/
def scolsL (P : Int) (sq : List Int) (n : Nat) (xs : List Int) : List (List Int) := tab n fun k => sandL P sq n xs (unitRow n k)
def vmatL (P : Int) (sq : List Int) (n : Nat) (xs : List Int) : List (List Int) := transL (scolsL P sq n xs)
theorem sandL_lens (P : Int) (sq : List Int) (n : Nat) (xs v : List Int) : (sandL P sq n xs v).length = n := by unfold sandL; rw [partL_len]
theorem scolsL_tab {P : Int} (hp : 2 ≤ P) (sq : List Int) (n : Nat) (xs : List Int) : Tab P n (scolsL P sq n xs) := Tab.tab fun _ _ => ⟨sandL_lens _ _ _ _ _, sandL_nums hp _ _ _ _⟩
theorem scolsL_len (P : Int) (sq : List Int) (n : Nat) (xs : List Int) : (scolsL P sq n xs).length = n := tab_len _ _
theorem vmatL_tab {P : Int} (hp : 2 ≤ P) (sq : List Int) (n : Nat) (xs : List Int) : Tab P n (vmatL P sq n xs) := by
 have := transL_tab (p := P) (by omega) (scolsL_tab hp sq n xs)
 rwa [scolsL_len] at this
theorem vmatL_len {P : Int} (hp : 2 ≤ P) (sq : List Int) {n : Nat} (h0 : 0 < n) (xs : List Int) : (vmatL P sq n xs).length = n := transL_len (scolsL_tab hp sq n xs) (by rw [scolsL_len]; exact h0)
/-- MatrixOfVersor. -/
def movR (P : Int) (sq xs : List Int) : List (List Int) × Int := if codeVr P sq xs = 0 then (vmatL P sq sq.length xs, 0) else ([], codeVr P sq xs)
set_option maxHeartbeats 1600000 in
set_option maxRecDepth 8000 in
theorem movCol_any (g gx : Nat) (P : Int) (A : Option Addr) (n c : Nat) (sq : List Int) (X : Option Addr) (cx : Nat) (xs : List Int) (Y : Option Addr) (cy : Nat) (v : List Int) (w : World) (hp : 2 ≤ P) (hp2 : P ≤ 13) (hn : n ≤ 6) (ha : Rd w A n (ints sq)) (hs : NumsL P sq) (hx : Rd w X (pw n) (ints xs)) (hxs : NumsL P xs) (hcx : pw n ≤ cx) (hy : Rd w Y n (ints v)) (hys : NumsL P v) (hcy : n ≤ cy) (kg : Blk w g 26 #[.int .i64 P, .slice A n c]) (kx : Blk w gx 24 #[.slice X (pw n) cx]) :
    Calls Tryz.prog 100 #[.slice Y n cy, .pointer (some ⟨g, 0, none⟩), .pointer (some ⟨gx, 0, none⟩)] w fun e w' => ∃ A' c', e = .returned (.slice A' n c') ∧ MkI w w' A' n c' (sandL P sq n xs v) := by
 obtain ⟨q0, q1⟩ := kg.two
 have qx := kx.cell 0
 simp only [zA, zC] at qx
 have hcall := sandwich_any P A n c sq X cx xs Y cy v w hp hp2 hn ha hs hx hxs hcx hy hys hcy
 go_enter Tryz.func100, Tryz.ntmps100
 go_wp2_with fail
 refine hcall.mono ?_
 rintro e w2 ⟨A2, c2, rfl, hM⟩
 go_wp2
 go_ret
 exact ⟨_, _, rfl, hM⟩
set_option maxHeartbeats 3200000 in
set_option maxRecDepth 8000 in
theorem l08Matrix_any (P : Int) (A : Option Addr) (n c : Nat) (sq : List Int) (X : Option Addr) (cx : Nat) (xs : List Int) (w : World) (hp : 2 ≤ P) (hp2 : P ≤ 13) (hn : n ≤ 6) (h0 : 0 < n) (ha : Rd w A n (ints sq)) (hs : NumsL P sq) (hx : Rd w X (pw n) (ints xs)) (hxs : NumsL P xs) (hcx : pw n ≤ cx) (HP : isP P = true) (hpos : 0 < nrmL P sq xs) :
    Calls Tryz.prog 103 #[.agg #[.int .i64 P, .slice A n c], .slice X (pw n) cx] w fun e w' => ∃ A' c', e = .returned (.slice A' n c') ∧ MkII w w' A' n c' (vmatL P sq n xs) := by
 have hpn := pw_pos n
 have hpw : pw n ≤ 64 := pw_le hn
 have hB0 : Below w.heap.size w (w.alloc (.cells #[.int .i64 P, .slice A n c] 26)) := zG.alloc (Nat.le_refl _) _
 have k0 : Blk (w.alloc (.cells #[.int .i64 P, .slice A n c] 26)) w.heap.size 26 #[.int .i64 P, .slice A n c] := Blk.new _ _ _
 have hB1 := hB0.alloc (by simp) (.cells #[] 24)
 have k1 := k0.alloc (.cells #[] 24)
 have hM1 : MkII w ((w.alloc (.cells #[.int .i64 P, .slice A n c] 26)).alloc (.cells #[] 24)) (some ⟨w.heap.size + 1, 0, none⟩) 0 0 [] := by
  have := MkII.empty hB0
  simpa using this
 clear k0 hB0
 obtain ⟨q0, q1⟩ := k1.two
 have hmk := make_i (P := Tryz.prog) 24 2 Tryz.underlying24 info_i n (by omega)
 go_enter Tryz.func103, Tryz.ntmps103
 go_wp2
 obtain ⟨w1, hw1⟩ : ∃ W, W = (w.alloc (.cells #[.int .i64 P, .slice A n c] 26)).alloc (.cells #[] 24) := ⟨_, rfl⟩
 rw [← hw1] at hM1 k1 ⊢
 clear hw1 hB1 q0 q1
 go_loopw [5, 6] (fun out i wr => ∃ (k : Nat) (A' : Option Addr) (c' : Nat), k ≤ n ∧ i = .int .i64 k ∧ out = .slice A' k c' ∧ MkII w wr A' k c' (tab k fun k => sandL P sq n xs (unitRow n k)) ∧ Blk wr w.heap.size 26 #[.int .i64 P, .slice A n c]) (fun _ i _ => n - (intOf i).toNat)
 case atStart => exact ⟨0, _, _, by omega, rfl, rfl, by simpa [tab] using hM1, k1⟩
 case round =>
  obtain ⟨k, A', c', hk, rfl, rfl, hM, k4⟩ := hrel
  clear hM1 k1
  obtain ⟨q0, q1⟩ := k4.two
  by_cases hlt : k < n
  · have hm1 := Mk.made (E := 2) (n := n) (z := .int .i64 0) (Below.refl wr.heap.size wr) (by simp only [maxLen]; omega)
    rw [ints_replicate] at hm1
    obtain ⟨u1, hc1⟩ := hm1.2.cellI hlt
    have hf1 := hm1.2.frozen_ k
    have hm2 := (hm1.set k (.int .i64 1)).1
    rw [ints_set, World.setCell_alloc_at _ _ _ _ _ rfl] at hm2
    have HRU := Lib.hid (show MkI wr _ (some ⟨wr.heap.size, 0, none⟩) n n (unitRow n k) from hm2)
    have k5 := k4.below hm2.b k4.lt
    have HM := Lib.hid hM
    have HUN := Lib.hid (unitRow_nums hp n k)
    have HA := Lib.hid (ha.below (hM.b.trans (hm2.b.mono hM.b.size)))
    have HX := Lib.hid (hx.below (hM.b.trans (hm2.b.mono hM.b.size)))
    have HSQ := Lib.hid hs
    have HXS := Lib.hid hxs
    have HPP := Lib.hid HP
    have HBW := Lib.hid hm2.b
    have hcall := l07Sandwich_any P A n c sq _ _ xs _ n (unitRow n k) _ hp hp2 hn HA.out HSQ.out HX.out HXS.out hcx HRU.out.rd HUN.out (Nat.le_refl _) HPP.out hpos
    obtain ⟨q2, q3⟩ := k5.two
    clear hM hm1 hm2
    go_wp2_with fail
    refine hcall.mono ?_
    rintro e w5 ⟨A5, c5, rfl, hM5⟩
    have hM5' := hM5.after HBW.out
    have k6 := k5.below hM5.b k5.lt
    clear hcall hc1 hf1 q0 q1 q2 q3
    go_wp2_with (at_builtin; refine wpList_appRowG w wr _ rfl _ _ rfl A' k c' _ A5 n c5 _ HM.out hM5' (by omega) rfl ?_ ?_; (go_simp); intro A20 c20 w20 hM20 hg20 hat20)
    have k7 := k6.grown hg20 ((HM.out.below hM5'.b).ne_blk k6 (by decide))
    clear k6 hat20 hg20
    go_roundw
    case rel => exact ⟨k + 1, A20, c20, by omega, by go_num, rfl, by rw [tab_succ]; exact hM20, k7⟩
    case measure => simp [intOf]; omega
  · obtain rfl : k = n := by omega
    have HM := Lib.hid hM
    have htr := l02Turn_any P A' k c' (scolsL P sq k xs) k wr h0 (by omega) (by omega) hM.rd (scolsL_tab hp sq k xs)
    have HLK : Hid (vmatL P sq k xs = transL (scolsL P sq k xs)) := Lib.hid rfl
    clear hM
    go_wp2_with fail
    refine htr.mono ?_
    rintro e w5 ⟨A5, c5, rfl, hM5⟩
    go_wp2
    go_ret
    rw [HLK.out]
    exact ⟨_, _, rfl, hM5.after HM.out.b⟩
set_option maxHeartbeats 1600000 in
set_option maxRecDepth 8000 in
theorem MatrixOfVersor_any (P : Int) (A : Option Addr) (n c : Nat) (sq : List Int) (X : Option Addr) (m cx : Nat) (xs : List Int) (w : World) (hn : n ≤ 1048576) (hm : m ≤ 1048576) (ha : Rd w A n (ints sq)) (hx : Rd w X m (ints xs)) (hcx : m ≤ cx) :
    Calls Tryz.prog 21 #[.agg #[.int .i64 P, .slice A n c], .slice X m cx] w fun e w' => ∃ (A' : Option Addr) (k c' : Nat), e = .returned (.tuple #[.slice A' k c', .int .i64 (movR P sq xs).2]) ∧ MkII w w' A' k c' (movR P sq xs).1 := by
 have hB0 : Below w.heap.size w (w.alloc (.cells #[.int .i64 P, .slice A n c] 26)) := zG.alloc (Nat.le_refl _) _
 have k0 : Blk (w.alloc (.cells #[.int .i64 P, .slice A n c] 26)) w.heap.size 26 #[.int .i64 P, .slice A n c] := Blk.new _ _ _
 have hBx : Below w.heap.size w ((w.alloc (.cells #[.int .i64 P, .slice A n c] 26)).alloc (.cells #[.slice X m cx] 24)) := hB0.alloc (by simp) _
 have hB1 : Below w.heap.size w (((w.alloc (.cells #[.int .i64 P, .slice A n c] 26)).alloc (.cells #[.slice X m cx] 24)).alloc (.cells #[.slice X m cx] 24)) := hBx.alloc (by simp; omega) _
 have k1 : Blk (((w.alloc (.cells #[.int .i64 P, .slice A n c] 26)).alloc (.cells #[.slice X m cx] 24)).alloc (.cells #[.slice X m cx] 24)) w.heap.size 26 #[.int .i64 P, .slice A n c] := (k0.alloc _).alloc _
 have kx : Blk (((w.alloc (.cells #[.int .i64 P, .slice A n c] 26)).alloc (.cells #[.slice X m cx] 24)).alloc (.cells #[.slice X m cx] 24)) (w.heap.size + 1) 24 #[.slice X m cx] := Blk.alloc (Blk.newAt3 (by simp)) _
 have hreg := checkVersors_any P A (some ⟨w.heap.size + 2, 0, none⟩) none n c 1 1 0 0 sq [xs] [] (((w.alloc (.cells #[.int .i64 P, .slice A n c] 26)).alloc (.cells #[.slice X m cx] 24)).alloc (.cells #[.slice X m cx] 24)) hn (by omega) (by omega) (ha.below hB1) (rdII_one' (Blk.newAt3 (by simp)) (hx.below hB1) hcx) (all_one (by rw [hx.lenI]; exact hm)) (RdII.nil _ _) (by simp)
 rw [codeVs_nil] at hreg
 obtain ⟨r, hr⟩ : ∃ r, r = codeR P sq [xs] := ⟨_, rfl⟩
 have HR := Lib.hid hr
 by_cases hr0 : r = 0
 · have hcM := (codeR_zero (hr.symm.trans hr0)).1
   obtain ⟨HP, hp, hp2, hd1, hd2, hs, hms⟩ := codeM_spec hcM
   have hxl := hx.lenI
   have hsl := ha.lenI
   obtain ⟨hl1, hxs⟩ := hms xs (by simp)
   have hn6 : n ≤ 6 := by omega
   have hn0 : 0 < n := by omega
   have hmn : m = pw n := by rw [← hxl, hl1, hsl]
   subst hmn
   have HSL := Lib.hid hsl
   have HS := Lib.hid hs
   have HXS := Lib.hid hxs
   clear hxl hsl hms hl1 hd1 hd2 hcM hs hxs
   have HR0 := Lib.hid hr0
   have b0 := code_eq hr0
   clear hr hr0
   cases hv : versB P sq n xs
   all_goals
    have hcv := codeVr_eq (P := P) (sq := sq) (xs := xs) (by rw [← HR.out]; exact HR0.out)
    rw [HSL.out, hv] at hcv
    have HCV := Lib.hid hcv
    have HV := Lib.hid hv
    clear hv hcv
    go_enter Tryz.func21, Tryz.ntmps21
    go_wp2_with fail
    refine hreg.mono ?_
    rintro e w2 ⟨rfl, hb2⟩
    rw [← HR.out]
    have hB2 := hB1.trans (hb2.mono hB1.size)
    have k2 := k1.below hb2 k1.lt
    have kx2 := kx.below hb2 kx.lt
    obtain ⟨q0, q1⟩ := k2.two
    have qx := kx2.cell 0
    simp only [zA, zC] at qx
    clear k1 k0 kx hB0 hBx hB1 hb2
    go_wp2_with fail
    refine (isVersor_any P A n c sq X cx xs _ hp hp2 hn6 (ha.below hB2) HS.out (hx.below hB2) HXS.out hcx).mono ?_
    rintro e w3 ⟨rfl, hb3⟩
    rw [HV.out]
    have hB3 := hB2.trans (hb3.mono hB2.size)
    have k3 := k2.below hb3 k2.lt
    have kx3 := kx2.below hb3 kx2.lt
    clear q0 q1 qx
    obtain ⟨q0, q1⟩ := k3.two
    have HMV := Lib.hid (matrixBy_any 100 ⟨w.heap.size, 0, none⟩ ⟨w.heap.size + 1, 0, none⟩ (fun k => sandL P sq n xs (unitRow n k)) (fun _ _ => by rfl) P A n c w3 hp hn6 hn0 (fun _ _ => ⟨sandL_lens _ _ _ _ _, sandL_nums hp _ _ _ _⟩)
     (fun k w' Y cy _ hb hy hcy => movCol_any w.heap.size (w.heap.size + 1) P A n c sq X cx xs Y cy (unitRow n k) w' hp hp2 hn6 ((ha.below hB3).below hb) HS.out ((hx.below hB3).below hb) HXS.out hcx hy (unitRow_nums hp n k) hcy (k3.below hb k3.lt) (kx3.below hb kx3.lt)))
    go_wp2_with fail
   · go_ret2
     refine ⟨none, 0, 0, ret_tupS ?_, ?_⟩
     · unfold movR; rw [HCV.out]; rfl
     · unfold movR; rw [HCV.out]
       exact MkII.nil hB3
   · refine HMV.out.mono ?_
     rintro e w4 ⟨A4, c4, rfl, hM⟩
     go_wp2
     go_ret2
     exact ⟨_, _, _, ret_tupS (by unfold movR; rw [HCV.out]; rfl), by unfold movR; rw [HCV.out, HSL.out]; exact hM.after hB3⟩
 · have HR0 := Lib.hid hr0
   have b0 := code_ne hr0
   clear hr hr0
   go_enter Tryz.func21, Tryz.ntmps21
   go_wp2_with fail
   refine hreg.mono ?_
   rintro e w2 ⟨rfl, hb2⟩
   rw [← HR.out]
   have hB2 := hB1.trans (hb2.mono hB1.size)
   have k2 := k1.below hb2 k1.lt
   obtain ⟨q0, q1⟩ := k2.two
   clear k1 hB1 hb2
   go_wp2
   go_ret2
   have hv : codeVr P sq xs = r := by rw [codeVr_ne (by rw [← HR.out]; exact HR0.out), HR.out]
   refine ⟨none, 0, 0, ret_tupS ?_, ?_⟩
   · unfold movR; rw [hv, if_neg HR0.out]
   · unfold movR; rw [hv, if_neg HR0.out]
     exact MkII.nil hB2
set_option maxHeartbeats 1600000 in
set_option maxRecDepth 8000 in
theorem specMatrixOfVersor_any (P : Int) (A : Option Addr) (n c : Nat) (sq : List Int) (X : Option Addr) (m cx : Nat) (xs : List Int) (w : World) (hn : n ≤ 1048576) (hm : m ≤ 1048576) (ha : Rd w A n (ints sq)) (hx : Rd w X m (ints xs)) (hcx : m ≤ cx) :
    Calls Tryz.prog 22 #[.agg #[.int .i64 P, .slice A n c], .slice X m cx] w fun e w' => ∃ (A' : Option Addr) (k c' : Nat), e = .returned (.tuple #[.slice A' k c', .int .i64 (movR P sq xs).2]) ∧ MkII w w' A' k c' (movR P sq xs).1 := by
 have hB0 : Below w.heap.size w (w.alloc (.cells #[.int .i64 P, .slice A n c] 26)) := zG.alloc (Nat.le_refl _) _
 have k0 : Blk (w.alloc (.cells #[.int .i64 P, .slice A n c] 26)) w.heap.size 26 #[.int .i64 P, .slice A n c] := Blk.new _ _ _
 have hreg := l07Code_any P A n c sq X m cx xs _ hn hm (ha.below hB0) (hx.below hB0) hcx
 obtain ⟨r, hr⟩ : ∃ r, r = codeVr P sq xs := ⟨_, rfl⟩
 have HR := Lib.hid hr
 by_cases hr0 : r = 0
 · obtain ⟨hcr, hvers⟩ := codeVr_zero (hr.symm.trans hr0)
   have hcM := (codeR_zero hcr).1
   obtain ⟨HP, hp, hp2, hd1, hd2, hs, hms⟩ := codeM_spec hcM
   have hxl := hx.lenI
   have hsl := ha.lenI
   obtain ⟨hl1, hxs⟩ := hms xs (by simp)
   have hn6 : n ≤ 6 := by omega
   have hn0 : 0 < n := by omega
   have hmn : m = pw n := by rw [← hxl, hl1, hsl]
   subst hmn
   have HSL := Lib.hid hsl
   have HS := Lib.hid hs
   have HXS := Lib.hid hxs
   clear hxl hsl hms hl1 hd1 hd2 hcM hs hxs
   rw [HSL.out] at hvers
   have HV := Lib.hid hvers
   have hpos := versB_norm hp hvers
   have HR0 := Lib.hid hr0
   have b0 := code_eq hr0
   clear hr hr0 hcr hvers
   go_enter Tryz.func22, Tryz.ntmps22
   go_wp2_with fail
   refine hreg.mono ?_
   rintro e w2 ⟨rfl, hb2⟩
   rw [← HR.out]
   have hB2 := hB0.trans (hb2.mono (by simp))
   have k2 := k0.below hb2 k0.lt
   obtain ⟨q0, q1⟩ := k2.two
   clear k0 hB0 hb2
   go_wp2_with fail
   refine (l08Matrix_any P A n c sq X cx xs _ hp hp2 hn6 hn0 (ha.below hB2) HS.out (hx.below hB2) HXS.out hcx HP hpos).mono ?_
   rintro e w3 ⟨A3, c3, rfl, hM⟩
   go_wp2
   go_ret2
   exact ⟨_, _, _, ret_tupS (by unfold movR; rw [← HR.out, if_pos HR0.out]), by unfold movR; rw [← HR.out, if_pos HR0.out, HSL.out]; exact hM.after hB2⟩
 · have HR0 := Lib.hid hr0
   have b0 := code_ne hr0
   clear hr hr0
   go_enter Tryz.func22, Tryz.ntmps22
   go_wp2_with fail
   refine hreg.mono ?_
   rintro e w2 ⟨rfl, hb2⟩
   rw [← HR.out]
   have hB2 := hB0.trans (hb2.mono (by simp))
   have k2 := k0.below hb2 k0.lt
   obtain ⟨q0, q1⟩ := k2.two
   clear k0 hB0 hb2
   go_wp2
   go_ret2
   refine ⟨none, 0, 0, ret_tupS ?_, ?_⟩
   · unfold movR; rw [← HR.out, if_neg HR0.out]
   · unfold movR; rw [← HR.out, if_neg HR0.out]
     exact MkII.nil hB2
end Go.Proofs.YtmkjdpnoloofjaaGreat
namespace Go.Proofs.YtmkjdpnoloofjaaGreat
/-- One step of the decomposition: the vectors so far, and what is left of the matrix. -/
def decW (n : Nat) (M : List (List Int)) (k : Nat) : List Int := (transL M).getD k []
def decS (p : Int) (sq : List Int) (n : Nat) (s : List (List Int) × List (List Int)) (k : Nat) : List (List Int) × List (List Int) :=
 if decW n s.2 k = unitRow n k then s
 else if pairL p sq (plusL p (decW n s.2 k) (unitRow n k) (-1)) (plusL p (decW n s.2 k) (unitRow n k) (-1)) = 0 then
  (s.1 ++ [plusL p (decW n s.2 k) (unitRow n k) 1, unitRow n k], timesM p (rmatL p sq n (unitRow n k)) (timesM p (rmatL p sq n (plusL p (decW n s.2 k) (unitRow n k) 1)) s.2))
 else (s.1 ++ [plusL p (decW n s.2 k) (unitRow n k) (-1)], timesM p (rmatL p sq n (plusL p (decW n s.2 k) (unitRow n k) (-1))) s.2)
def decTo (p : Int) (sq : List Int) (n : Nat) (M : List (List Int)) : Nat → List (List Int) × List (List Int)
 | 0 => ([], M)
 | k + 1 => decS p sq n (decTo p sq n M k) k
def decL (p : Int) (sq : List Int) (M : List (List Int)) : List (List Int) := (decTo p sq sq.length M sq.length).1
section
variable {p : Int} {sq : List Int}
/-- The product of the matrices of reflections. -/
def prodR (hp : 2 ≤ p) (h0 : 0 < sq.length) (L : List (List Int)) : Mt p sq.length := L.foldl (fun x u => x * Mt.refl hp h0 u) (Mt.one (by omega))
theorem prodR_from (hp : 2 ≤ p) (h0 : 0 < sq.length) (L : List (List Int)) : ∀ y : Mt p sq.length, L.foldl (fun x u => x * Mt.refl hp h0 u) y = y * prodR hp h0 L := by
 induction L with
 | nil => intro y; exact (Mt.mul_one _ y).symm
 | cons v vs ih =>
  intro y
  unfold prodR
  rw [List.foldl_cons, ih, List.foldl_cons, ih, Mt.one_mul, Mt.mul_assoc]
theorem prodR_cons (hp : 2 ≤ p) (h0 : 0 < sq.length) (v : List Int) (L : List (List Int)) : (prodR hp h0 (v :: L) : Mt p sq.length) = Mt.refl hp h0 v * prodR hp h0 L := by
 have := prodR_from hp h0 L (Mt.refl hp h0 v)
 rw [← this]
 unfold prodR
 rw [List.foldl_cons, Mt.one_mul]
theorem prodR_snoc (hp : 2 ≤ p) (h0 : 0 < sq.length) (L : List (List Int)) (v : List Int) : (prodR hp h0 (L ++ [v]) : Mt p sq.length) = prodR hp h0 L * Mt.refl hp h0 v := by
 unfold prodR
 rw [List.foldl_append]; rfl
theorem prodR_col (hP : isP p = true) (hp : 2 ≤ p) (h0 : 0 < sq.length) : ∀ (L : List (List Int)), Good p sq L → ∀ {i : Nat}, i < sq.length → (prodR hp h0 L).col i = refls p sq L (unitRow sq.length i)
 | [], _, i, hi => Mt.one_col hp hi
 | v :: L, hL, i, hi => by
  rw [prodR_cons, Mt.refl_mul hP hp h0 (hL v (List.mem_cons_self ..)).1 _ hi, prodR_col hP hp h0 L (fun u hu => hL u (List.mem_cons_of_mem _ hu)) hi]
  rfl
/-- Reflections keep products. -/
theorem refl_pair (hP : isP p = true) {v a b : List Int} (ha : a.length = sq.length) (hb : b.length = sq.length) (hv : bil sq v v % p ≠ 0) : bil sq (reflF p sq v a) (reflF p sq v b) % p = bil sq a b % p := by
 have h3 := (isP_ge hP).1
 have hi : bil sq v v * invF p (bil sq v v % p) % p = 1 % p := by rw [inv_mod hP hv, Int.emod_eq_of_lt (by omega) (by omega)]
 obtain ⟨i, hii⟩ : ∃ i, i = invF p (bil sq v v % p) := ⟨_, rfl⟩
 have e1 := bil_plus (p := p) (u := reflF p sq v b) (b := v) ha (-(2 * bil sq v a * invF p (bil sq v v % p)))
 have e2 := bil_plus (p := p) (u := a) (b := v) hb (-(2 * bil sq v b * invF p (bil sq v v % p)))
 have e3 := bil_plus (p := p) (u := v) (b := v) hb (-(2 * bil sq v b * invF p (bil sq v v % p)))
 change bil sq (reflF p sq v a) (reflF p sq v b) % p = _ at e1
 change bil sq (reflF p sq v b) a % p = _ at e2
 change bil sq (reflF p sq v b) v % p = _ at e3
 rw [bil_symm sq (reflF p sq v b), bil_symm sq b a] at e2
 rw [bil_symm sq (reflF p sq v b), bil_symm sq b v] at e3
 rw [← hii] at e1 e2 e3 hi
 obtain ⟨X, hX⟩ : ∃ X, X = bil sq (reflF p sq v a) (reflF p sq v b) := ⟨_, rfl⟩
 obtain ⟨Y, hY⟩ : ∃ Y, Y = bil sq a (reflF p sq v b) := ⟨_, rfl⟩
 obtain ⟨Z, hZ⟩ : ∃ Z, Z = bil sq v (reflF p sq v b) := ⟨_, rfl⟩
 obtain ⟨N, hN⟩ : ∃ N, N = bil sq v v := ⟨_, rfl⟩
 obtain ⟨Q, hQ⟩ : ∃ Q, Q = bil sq a b := ⟨_, rfl⟩
 obtain ⟨R, hR⟩ : ∃ R, R = bil sq v a := ⟨_, rfl⟩
 obtain ⟨S, hS⟩ : ∃ S, S = bil sq v b := ⟨_, rfl⟩
 rw [← hX, ← hY, ← hZ, ← hR] at e1
 rw [← hY, ← hQ, ← hR, ← hS] at e2
 rw [← hZ, ← hN, ← hS] at e3
 rw [← hX, ← hQ]
 rw [← hN] at hi
 obtain ⟨r1, e1⟩ := cg_wit.1 e1
 obtain ⟨r2, e2⟩ := cg_wit.1 e2
 obtain ⟨r3, e3⟩ := cg_wit.1 e3
 obtain ⟨r4, e4⟩ := cg_wit.1 hi
 clear hX hY hZ hN hQ hR hS hii hv
 exact cg_wit.2 ⟨r1 + r2 - 2 * R * i * r3 + 4 * R * S * i * r4, by grind⟩
/-- A reflection keeps what is orthogonal. -/
theorem refl_fix (hp : 0 < p) {v w : List Int} (hw : w.length = sq.length) (hwn : NumsL p w) (h : bil sq v w % p = 0) : reflF p sq v w = w := by
 unfold reflF
 have hc : (-(2 * bil sq v w * invF p (bil sq v v % p))) % p = 0 % p := by
  obtain ⟨k, hk⟩ := cg_wit.1 (h.trans (Int.zero_emod p).symm)
  exact cg_wit.2 ⟨-(2 * k * invF p (bil sq v v % p)), by rw [hk]; grind⟩
 rw [plusL_mod p w _ hc]
 refine list_ext_getD 0 (plusL_len _ _ _ _) fun i hi => ?_
 rw [plusL_len] at hi
 have hb := hwn.getD hp i
 rw [plusL_getD _ _ hi, Int.zero_mul, Int.add_zero, Int.emod_eq_of_lt hb.1 hb.2]
theorem plusL_swap {a b : List Int} (h : a.length = b.length) : plusL p a b 1 = plusL p b a 1 := by
 refine list_ext_getD 0 (by rw [plusL_len, plusL_len, h]) fun i hi => ?_
 rw [plusL_len] at hi
 rw [plusL_getD _ _ hi, plusL_getD _ _ (by omega), Int.one_mul, Int.one_mul, Int.add_comm]
/-- What holds ahead of each step. -/
structure Dec (hp : 2 ≤ p) (h0 : 0 < sq.length) (m : Mt p sq.length) (s : List (List Int) × List (List Int)) (k : Nat) : Prop where
 len : s.1.length ≤ 2 * k
 good : Good p sq s.1
 all : ∃ x : Mt p sq.length, s.2 = x.l ∧ prodR hp h0 s.1 * x = m ∧ (∀ i j, i < sq.length → j < sq.length → bil sq (x.col i) (x.col j) % p = (if i = j then sq.getD i 0 else 0) % p) ∧ ∀ j, j < k → x.col j = unitRow sq.length j
theorem Dec.step (hP : isP p = true) (hp : 2 ≤ p) (h0 : 0 < sq.length) (hs : NumsL p sq) (hr : regB sq = true) {m : Mt p sq.length} {s : List (List Int) × List (List Int)} {k : Nat} (hk : k < sq.length) (h : Dec hp h0 m s k) : Dec hp h0 m (decS p sq sq.length s k) (k + 1) := by
 obtain ⟨hlen, hgood, x, hx2, hx, hO, hF⟩ := h
 have hp0 : 0 < p := by omega
 have hw : decW sq.length s.2 k = x.col k := by unfold decW Mt.col; rw [hx2]
 obtain ⟨w, hwe⟩ : ∃ w, w = x.col k := ⟨_, rfl⟩
 obtain ⟨hwl, hwn⟩ := Mt.col_ok x hk
 rw [← hwe] at hwl hwn hw
 obtain ⟨e, hee⟩ : ∃ e, e = unitRow sq.length k := ⟨_, rfl⟩
 have hel : e.length = sq.length := by rw [hee, unitRow_len]
 have hen : NumsL p e := by rw [hee]; exact unitRow_nums hp _ _
 have hsk := hs.getD hp0 k
 have hsk0 : sq.getD k 0 ≠ 0 := regB_at hr (getD_mem 0 hk)
 have bee : bil sq e e = sq.getD k 0 := by rw [hee, bil_unit hk hk, if_pos rfl]
 have been : bil sq e e % p ≠ 0 := by rw [bee, Int.emod_eq_of_lt hsk.1 hsk.2]; exact hsk0
 have bww : bil sq w w % p = bil sq e e % p := by rw [bee, hwe, hO k k hk hk, if_pos rfl]
 have bwwn : bil sq w w % p ≠ 0 := by rw [bww]; exact been
 have bej : ∀ j, j < k → bil sq e (unitRow sq.length j) % p = 0 := fun j hj => by rw [hee, bil_unit hk (by omega), if_neg (by omega), Int.zero_emod]
 have bwj : ∀ j, j < k → bil sq w (unitRow sq.length j) % p = 0 := fun j hj => by
  have := hO k j hk (by omega)
  rw [if_neg (by omega), hF j hj, ← hwe] at this
  rw [this, Int.zero_emod]
 have bsj : ∀ t j, j < k → bil sq (plusL p w e t) (unitRow sq.length j) % p = 0 := fun t j hj => by
  rw [bil_plus hwl]
  refine (cg_add ((bwj j hj).trans (Int.zero_emod p).symm) (cg_mul rfl ((bej j hj).trans (Int.zero_emod p).symm))).trans ?_
  rw [Int.mul_zero, Int.add_zero, Int.zero_emod]
 -- one reflection ahead
 have one : ∀ (u : List Int), u.length = sq.length → bil sq u u % p ≠ 0 → (∀ j, j < k → bil sq u (unitRow sq.length j) % p = 0) → ∀ y : Mt p sq.length,
     (∀ i j, i < sq.length → j < sq.length → bil sq (y.col i) (y.col j) % p = (if i = j then sq.getD i 0 else 0) % p) → (∀ j, j < k → y.col j = unitRow sq.length j) →
     (∀ i j, i < sq.length → j < sq.length → bil sq ((Mt.refl hp h0 u * y).col i) ((Mt.refl hp h0 u * y).col j) % p = (if i = j then sq.getD i 0 else 0) % p) ∧ (∀ j, j < k → (Mt.refl hp h0 u * y).col j = unitRow sq.length j) := fun u hu hne hor y hOy hFy => by
  refine ⟨fun i j hi hj => ?_, fun j hj => ?_⟩
  · rw [Mt.refl_mul hP hp h0 hu y hi, Mt.refl_mul hP hp h0 hu y hj, refl_pair hP (Mt.col_ok y hi).1 (Mt.col_ok y hj).1 hne]
    exact hOy i j hi hj
  · rw [Mt.refl_mul hP hp h0 hu y (by omega), hFy j hj]
    exact refl_fix hp0 (unitRow_len _ _) (unitRow_nums hp _ _) (hor j hj)
 have hnew : ∀ (L : List (List Int)) (u : List Int), u.length = sq.length → bil sq u u % p ≠ 0 → ∀ y : Mt p sq.length, prodR hp h0 (L ++ [u]) * (Mt.refl hp h0 u * y) = prodR hp h0 L * y := fun L u hu hne y => by
  rw [prodR_snoc, Mt.mul_assoc, ← Mt.mul_assoc (Mt.refl hp h0 u), Mt.refl_two hP hp h0 hu hne, Mt.one_mul]
 have hl2 : ∀ (u : List Int) (y : Mt p sq.length), timesM p (rmatL p sq sq.length u) y.l = (Mt.refl hp h0 u * y).l := fun u y => (Mt.mul_l (Mt.refl hp h0 u) y h0).symm
 unfold decS
 rw [hw, ← hee]
 by_cases h1 : w = e
 · rw [if_pos h1]
   refine ⟨by omega, hgood, x, hx2, hx, hO, fun j hj => ?_⟩
   rcases Nat.lt_or_ge j k with h | h
   · exact hF j h
   · obtain rfl : j = k := by omega
     rw [← hwe, h1, hee]
 · rw [if_neg h1]
   have hdl : ∀ t, (plusL p w e t).length = sq.length := fun t => (plusL_len _ _ _ _).trans hwl
   have hdn : ∀ t, NumsL p (plusL p w e t) := fun t => plusL_nums hp0 _ _ _
   obtain ⟨d, hd⟩ : ∃ d, d = plusL p w e (-1) := ⟨_, rfl⟩
   rw [← hd]
   by_cases h2 : pairL p sq d d = 0
   · rw [if_pos h2]
     have hz : bil sq d d % p = 0 := (bil_same hP (by rw [hd]; exact hdl _)).1 h2
     have hz2 : bil sq (plusL p e w (-1)) (plusL p e w (-1)) % p = 0 := by
      have e1 := bil_plus2 (p := p) (v := e) hwl (-1)
      have e2 := bil_plus2 (p := p) (v := w) hel (-1)
      rw [← hd, hz, bil_symm sq e w] at e1
      rw [e2, e1]
      congr 1
      grind
     obtain ⟨hn3, hr3⟩ := (vb_refls hP hwl hwn hel hen bww bwwn).2 hz2
     obtain ⟨a, ha⟩ : ∃ a, a = plusL p w e 1 := ⟨_, rfl⟩
     have ha2 : plusL p e w 1 = a := by rw [ha]; exact plusL_swap (hel.trans hwl.symm)
     rw [ha2] at hn3 hr3
     rw [← ha]
     have hal : a.length = sq.length := by rw [ha]; exact hdl 1
     have han : NumsL p a := by rw [ha]; exact hdn 1
     obtain ⟨o1, f1⟩ := one a hal hn3 (by rw [ha]; exact bsj 1) x hO hF
     obtain ⟨o2, f2⟩ := one e hel been bej _ o1 f1
     refine ⟨by simp only [List.length_append, List.length_cons, List.length_nil]; omega, fun u hu => ?_, Mt.refl hp h0 e * (Mt.refl hp h0 a * x), ?_, ?_, o2, fun j hj => ?_⟩
     · rcases List.mem_append.1 hu with hu | hu
       · exact hgood u hu
       · rcases List.mem_cons.1 hu with rfl | hu
         · exact ⟨hal, han, hn3⟩
         · rw [List.mem_singleton.1 hu]; exact ⟨hel, hen, been⟩
     · show timesM p (rmatL p sq sq.length e) (timesM p (rmatL p sq sq.length a) s.2) = _
       rw [hx2, hl2, hl2]
     · show prodR hp h0 (s.1 ++ [a, e]) * _ = m
       rw [show s.1 ++ [a, e] = (s.1 ++ [a]) ++ [e] by simp, hnew _ e hel been, hnew _ a hal hn3, hx]
     · rcases Nat.lt_or_ge j k with h | h
       · exact f2 j h
       · obtain rfl : j = k := by omega
         rw [Mt.refl_mul hP hp h0 hel _ hk, Mt.refl_mul hP hp h0 hal _ hk, ← hwe, ← hee]
         exact hr3
   · rw [if_neg h2]
     have hdl0 : d.length = sq.length := by rw [hd]; exact hdl _
     have hz : bil sq d d % p ≠ 0 := fun h => h2 ((bil_same hP hdl0).2 h)
     have hr3 := (vb_refls hP hel hen hwl hwn bww.symm been).1 (by rw [← hd]; exact hz)
     rw [← hd] at hr3
     replace hr3 : reflF p sq d e = w := hr3
     obtain ⟨o1, f1⟩ := one d hdl0 hz (by rw [hd]; exact bsj (-1)) x hO hF
     refine ⟨by simp only [List.length_append, List.length_cons, List.length_nil]; omega, fun u hu => ?_, Mt.refl hp h0 d * x, ?_, ?_, o1, fun j hj => ?_⟩
     · rcases List.mem_append.1 hu with hu | hu
       · exact hgood u hu
       · rw [List.mem_singleton.1 hu]; exact ⟨hdl0, by rw [hd]; exact hdn _, hz⟩
     · show timesM p (rmatL p sq sq.length d) s.2 = _
       rw [hx2, hl2]
     · show prodR hp h0 (s.1 ++ [d]) * _ = m
       rw [hnew _ d hdl0 hz, hx]
     · rcases Nat.lt_or_ge j k with h | h
       · exact f1 j h
       · obtain rfl : j = k := by omega
         rw [Mt.refl_mul hP hp h0 hdl0 _ hk, ← hwe, ← hee, ← hr3]
         exact refl_refl hP hel hen hz
theorem isoB_dec {M : List (List Int)} (hP : isP p = true) (hp : 2 ≤ p) (h0 : 0 < sq.length) (hs : NumsL p sq) (hr : regB sq = true) (hT : Tab p sq.length M) (hl : M.length = sq.length) (hiso : isoB p sq M = true) : ∀ k, k ≤ sq.length → Dec hp h0 (Mt.mk' (by omega) hT hl) (decTo p sq sq.length M k) k
 | 0, _ => by
  refine ⟨by simp [decTo], fun u hu => by simp [decTo] at hu, Mt.mk' (by omega) hT hl, rfl, Mt.one_mul _ _, fun i j hi hj => ?_, fun j hj => absurd hj (by omega)⟩
  have h1 := (iso_iff (by omega) hs hT hl).1 hiso
  have h2 := pair_cols (by omega) hT hl hi hj
  rw [h1.2, Wm_at (by omega) hi hj] at h2
  rw [← h2, pairL_bil (trans_row (by omega) hT hl hi).1]
  rfl
 | k + 1, hk => (isoB_dec hP hp h0 hs hr hT hl hiso k (by omega)).step hP hp h0 hs hr (by omega)
/-- What the decomposition is. -/
theorem dec_all {M : List (List Int)} (hP : isP p = true) (h0 : 0 < sq.length) (hs : NumsL p sq) (hr : regB sq = true) (hT : Tab p sq.length M) (hl : M.length = sq.length) (hiso : isoB p sq M = true) :
    (decL p sq M).length ≤ 2 * sq.length ∧ Good p sq (decL p sq M) ∧ ∀ hp : 2 ≤ p, (prodR hp h0 (decL p sq M)).l = M := by
 have h3 := isP_ge hP
 obtain ⟨h1, h2, x, hx2, hx, -, hF⟩ := isoB_dec hP (by omega) h0 hs hr hT hl hiso sq.length (Nat.le_refl _)
 refine ⟨h1, h2, fun hp => ?_⟩
 have hone : x = Mt.one (by omega) := Mt.ext_col fun i hi => by rw [hF i hi, Mt.one_col (by omega) hi]
 rw [hone, Mt.mul_one] at hx
 show (prodR hp h0 (decTo p sq sq.length M sq.length).1).l = M
 rw [hx]; rfl
/-- The versor of the decomposition has the matrix. -/
theorem vmat_prod {L : List (List Int)} (hP : isP p = true) (hp : 2 ≤ p) (h0 : 0 < sq.length) (h6 : sq.length ≤ 6) (hL : Good p sq L) : vmatL p sq sq.length (versL p sq sq.length L) = (prodR hp h0 L).l := by
 have hT := vmatL_tab hp sq sq.length (versL p sq sq.length L)
 have hl := vmatL_len hp sq h0 (versL p sq sq.length L)
 have e : Mt.mk' (by omega) hT hl = prodR hp h0 L := Mt.ext_col fun i hi => by
  rw [prodR_col hP hp h0 L hL hi]
  have hS := scolsL_tab hp sq sq.length (versL p sq sq.length L)
  refine list_ext_getD 0 (by rw [(Mt.col_ok _ hi).1, refls_len, unitRow_len]) fun j hj => ?_
  rw [(Mt.col_ok _ hi).1] at hj
  rw [Mt.col_at _ hi hj]
  show ent (vmatL p sq sq.length (versL p sq sq.length L)) j i = _
  unfold vmatL
  rw [trans_at hS (scolsL_len _ _ _ _) h0 hj hi]
  unfold ent scolsL
  rw [tab_getD hi, sand_prod hP h6 L hL (unitRow_len _ _) (unitRow_nums hp _ _)]
 rw [← e]; rfl
end
end Go.Proofs.YtmkjdpnoloofjaaGreat
namespace Go.Proofs.YtmkjdpnoloofjaaGreat
open Go.RowKit
section
variable {P : Program} {ops : Array Oper} {Q : Exit → Act → World → Prop}
/-- Those whose values are good still when operation j is done (C: what each uses up). -/
def availR (R C : List (List Nat)) (m j : Nat) : List Nat := (R.getD j []).filter fun i => (List.range m).all fun k => !((C.getD k []).contains i) || k == j || (R.getD k []).contains j
/-- .. and at the end of the first m. -/
def endR (C : List (List Nat)) (m : Nat) : List Nat := (List.range m).filter fun i => (List.range m).all fun k => !((C.getD k []).contains i)
/-- What operation j may do to the world: add to it, or, where C has something at j, what Rel allows. -/
def StepR (C : List (List Nat)) (Rel : World → World → Prop) (j : Nat) (w w' : World) : Prop := if (C.getD j []).isEmpty then Below w.heap.size w w' else Rel w w'
theorem StepR.either {C : List (List Nat)} {Rel : World → World → Prop} {j : Nat} {w w' : World} {q : Prop} (h : StepR C Rel j w w') (h1 : Below w.heap.size w w' → q) (h2 : Rel w w' → q) : q := by
 unfold StepR at h
 split at h
 · exact h1 h
 · exact h2 h
theorem not_containsR {L : List Nat} {i : Nat} : (!(L.contains i)) = true ↔ i ∉ L := by
 rw [Bool.not_eq_true', ← Bool.not_eq_true, List.contains_iff_mem]
theorem availR_spec {R C : List (List Nat)} {m j i : Nat} : i ∈ availR R C m j ↔ i ∈ R.getD j [] ∧ ∀ k, k < m → i ∈ C.getD k [] → k = j ∨ j ∈ R.getD k [] := by
 unfold availR
 rw [List.mem_filter, List.all_eq_true]
 refine and_congr_right fun _ => ⟨fun h k hk hi => ?_, fun h k hk => ?_⟩
 · have h1 := h k (List.mem_range.2 hk)
   rw [Bool.or_eq_true, Bool.or_eq_true, not_containsR, beq_iff_eq, List.contains_iff_mem] at h1
   rcases h1 with (h1 | h1) | h1
   · exact absurd hi h1
   · exact .inl h1
   · exact .inr h1
 · rw [Bool.or_eq_true, Bool.or_eq_true, not_containsR, beq_iff_eq, List.contains_iff_mem]
   by_cases hi : i ∈ C.getD k []
   · rcases h k (List.mem_range.1 hk) hi with h1 | h1
     · exact .inl (.inr h1)
     · exact .inr h1
   · exact .inl (.inl hi)
theorem endR_spec {C : List (List Nat)} {m i : Nat} : i ∈ endR C m ↔ i < m ∧ ∀ k, k < m → i ∉ C.getD k [] := by
 unfold endR
 rw [List.mem_filter, List.all_eq_true, List.mem_range]
 exact and_congr_right fun _ => ⟨fun h k hk => not_containsR.1 (h k (List.mem_range.2 hk)), fun h k hk => not_containsR.2 (h k (List.mem_range.1 hk))⟩
/-- What is to be shown of operation j. -/
def ObR (P : Program) (ops : Array Oper) (S : World → Prop) (R C : List (List Nat)) (Rel : World → World → Prop) (m : Nat) (V : (Nat → Value) → List VP) (x : Nat → Value) (a0 : Act) (j : Nat) : Prop :=
 ∀ w, S w → (∀ i ∈ availR R C m j, ((V x).getD i VAny).p (x i) w) →
  wpOp P ops NoWay j (fun a' w' => ∃ v, (∀ d, dstOf ops j = some d → a'.tmps[d]? = some v) ∧ a'.defers = a0.defers ∧ ((V x).getD j VAny).p v w' ∧ StepR C Rel j w w') (putS ops x a0 j) w
theorem tasks_goR {m : Nat} {Rel : World → World → Prop} {R C : List (List Nat)} {V : (Nat → Value) → List VP} {S : World → Prop} {a0 : Act} (hok : tasksOk ops m a0.tmps.size R = true)
    (hdep : ∀ x x' j, (∀ i ∈ R.getD j [], x i = x' i) → (V x).getD j VAny = (V x').getD j VAny) (hweak : ∀ i, i < m → (C.getD i []).isEmpty = false → ∀ k, k < m → k ≠ i → i ∉ R.getD k [] → k ∉ C.getD i [] → ∀ x v w w', ((V x).getD k VAny).p v w → Rel w w' → ((V x).getD k VAny).p v w') (hSt : ∀ j w w', S w → StepR C Rel j w w' → S w') (hob : ∀ x j, j < m → ObR P ops S R C Rel m V x a0 j)
    (hend : ∀ x w', S w' → (∀ i ∈ endR C m, ((V x).getD i VAny).p (x i) w') → wpAny P .any ops Q (ops.size - m) (listedTo ops.size m) (putS ops x a0 m) w') :
    ∀ (c : Nat) (U : List Nat) (listed : Array Bool) (w : World) (x : Nat → Value), U.length = c → U.Nodup → (∀ i, i ∈ U ↔ i < m ∧ listed.getD i false = false) → listed.size = ops.size →
     (∀ i, m ≤ i → i < ops.size → listed.getD i false = false) → (∀ (j : Nat) (o : Oper), ops[j]? = some o → listed.getD j false = true → ∀ e ∈ o.after, Region.binds .any e = true → listed.getD e.on false = true) →
     S w → (∀ i, i < m → listed.getD i false = true → (∀ j, j < m → i ∈ C.getD j [] → listed.getD j false = false) → ((V x).getD i VAny).p (x i) w) → wpAny P .any ops Q (ops.size - m + c) listed (putD ops (fun i => listed.getD i false) x a0 m) w := by
 obtain ⟨hmn, hspec, htail⟩ := tasks_spec hok
 have hsel : Region.noSelect ops = true := by unfold tasksOk at hok; simp only [Bool.and_eq_true] at hok; exact hok.1.1
 intro c
 induction c with
 | zero =>
  intro U listed w x hU hnd hmem hsz hun hcl hS hV
  obtain rfl : U = [] := List.eq_nil_of_length_eq_zero hU
  have hall : ∀ i, i < m → listed.getD i false = true := fun i hi => by
   cases h : listed.getD i false
   · exact absurd ((hmem i).2 ⟨hi, h⟩) (by simp)
   · rfl
  have hl : listed = listedTo ops.size m := by
   apply Array.ext
   · simp [listedTo, hsz]
   · intro i h1 h2
     have e : listed.getD i false = listed[i] := by simp [Array.getD, h1]
     by_cases hi : i < m
     · have := hall i hi
       rw [e] at this
       simp [listedTo, this, hi]
     · have := hun i (by omega) (by omega)
       rw [e] at this
       simp [listedTo, this, hi]
  rw [Nat.add_zero, putD_congr (ops := ops) _ (fun _ => true) x x a0 m (fun i hi => ⟨hall i hi, fun _ => rfl⟩), hl]
  exact hend x w hS (fun i hi => hV i (endR_spec.1 hi).1 (hall i (endR_spec.1 hi).1) (fun j hj hc => absurd hc ((endR_spec.1 hi).2 j hj)))
 | succ c ih =>
  intro U listed w x hU hnd hmem hsz hun hcl hS hV
  have hne : U ≠ [] := fun e => by rw [e] at hU; simp at hU
  show (_ → _) ∧ _
  refine ⟨fun hr => ?_, fun i hi => ?_⟩
  · exfalso
    obtain ⟨i, hiU, hmin⟩ := min_mem U hne
    obtain ⟨him, hil⟩ := (hmem i).1 hiU
    have hlt : i < ops.size := by omega
    have : i ∈ Region.ready .any ops listed := mem_ready.2 ⟨by simpa [Array.getD, hsz, hlt] using hil, _, Array.getElem?_eq_getElem hlt, fun e he hb => by
     have hlti := (hspec i _ (Array.getElem?_eq_getElem hlt) him).1 e he hb
     cases h : listed.getD e.on false
     · have := hmin e.on ((hmem _).2 ⟨by omega, h⟩); omega
     · rfl⟩
    rw [hr] at this
    cases this
  · obtain ⟨hil, o, ho, hdeps⟩ := mem_ready.1 hi
    have hlt : i < ops.size := (Array.getElem?_eq_some_iff.1 ho).1
    have hil' : listed.getD i false = false := by simpa [Array.getD, hsz, hlt] using hil
    have hreach := listed_reach hok (fun i => listed.getD i false) hcl i o ho hdeps
    have him : i < m := by
     rcases Nat.lt_or_ge i m with h | h
     · exact h
     · exfalso
       obtain ⟨k, hk⟩ := List.exists_mem_of_ne_nil U hne
       obtain ⟨hkm, hkl⟩ := (hmem k).1 hk
       have := hreach k (htail i hlt h k hkm)
       rw [hkl] at this; cases this
    obtain ⟨_, ⟨d, hd, hdsz, hduniq⟩, hlook⟩ := hspec i o ho him
    have hdst : dstOf ops i = some d := by simp [dstOf, ho, hd]
    have hso : ∀ cs b, o.op ≠ .select cs b := fun cs b => Region.noSelect_spec hsel i o cs b ho
    -- the two frames agree on what o looks at
    have hagree : ∀ t ∈ o.looksAt ops, (putD ops (fun i => listed.getD i false) x a0 m).tmps[t]? = (putS ops x a0 i).tmps[t]? := fun t ht => by
     by_cases hex : ∃ k, k < m ∧ dstOf ops k = some t
     · obtain ⟨k, hkm, hkd⟩ := hex
       have hkR := hlook t ht k hkm hkd
       have hki := reach_lt hok i hlt k hkR
       have hkl := hreach k hkR
       have hks : k < ops.size := by omega
       obtain ⟨_, ⟨d', hd', hdsz', hu'⟩, _⟩ := hspec k _ (Array.getElem?_eq_getElem hks) hkm
       have htd : d' = t := by
        have : dstOf ops k = some d' := by simp [dstOf, Array.getElem?_eq_getElem hks, hd']
        rw [hkd] at this; injection this with this; exact this.symm
       rw [putD_at _ _ _ _ k hkd hkl (htd ▸ hdsz') m hkm (fun l hl hlk => htd ▸ hu' l hl hlk)]
       unfold putS
       rw [putD_at _ _ _ _ k hkd rfl (htd ▸ hdsz') i hki (fun l hl hlk => htd ▸ hu' l (by omega) hlk)]
     · rw [putD_other _ _ _ _ m (fun k hk hkd => absurd ⟨k, hk, hkd⟩ hex)]
       unfold putS
       rw [putD_other _ _ _ _ i (fun k hk hkd => absurd ⟨k, by omega, hkd⟩ hex)]
    have hob' := hob x i him w hS (fun k hk => by
     obtain ⟨hkR, hkC⟩ := availR_spec.1 hk
     refine hV k (by have := reach_lt hok i hlt k hkR; omega) (hreach k hkR) (fun j hj hc => ?_)
     rcases hkC j hj hc with rfl | hij
     · exact hil'
     · cases hjl : listed.getD j false
       · rfl
       · have hjs : j < ops.size := by omega
         have := listed_reach hok (fun i => listed.getD i false) hcl j _ (Array.getElem?_eq_getElem hjs) (hcl j _ (Array.getElem?_eq_getElem hjs) hjl) i hij
         rw [hil'] at this; cases this)
    have hsz1 := putD_size (ops := ops) (fun _ => true) x a0 i
    -- what comes behind
    have next : ∀ v w', ((V x).getD i VAny).p v w' → StepR C Rel i w w' → wpAny P .any ops Q (ops.size - m + c) (listed.setIfInBounds i true) ((putD ops (fun i => listed.getD i false) x a0 m).put (some d) v) w' := fun v w' hv hb => by
     have hput := putD_put (ops := ops) (fun k => listed.getD k false) (fun k => (listed.setIfInBounds i true).getD k false) x (fun k => if k = i then v else x k) a0 i hil'
      (by simp [hsz, hlt]) (fun k hk => ⟨by rw [getD_set_ne _ (Ne.symm hk)], by simp [hk]⟩) m him
      (fun d' k hk hki hd' => by rw [hdst] at hd'; injection hd' with hd'; exact hd' ▸ hduniq k hk hki)
     simp only [if_true] at hput
     rw [← hdst, hput]
     refine ih (U.erase i) _ _ _ ?_ (hnd.erase _) (fun k => ?_) (by simpa using hsz) (fun k h1 h2 => ?_) (fun j oj hoj hj e he hb' => ?_) (hSt i _ _ hS hb) (fun k hk hkl hcons => ?_)
     · rw [List.length_erase_of_mem ((hmem i).2 ⟨him, hil'⟩), hU]; rfl
     · rw [hnd.mem_erase_iff, hmem]
       by_cases hk : k = i
       · subst hk; simp [hsz, hlt]
       · rw [getD_set_ne _ (Ne.symm hk)]; simp [hk]
     · rw [getD_set_ne _ (by omega)]; exact hun k h1 h2
     · by_cases hji : j = i
       · subst hji
         rw [ho] at hoj; injection hoj with hoj; subst hoj
         exact getD_set_true (hdeps e he hb')
       · rw [getD_set_ne _ (Ne.symm hji)] at hj
         exact getD_set_true (hcl j oj hoj hj e he hb')
     · by_cases hki : k = i
       · subst hki
         rw [hdep _ x k (fun l hl => by have := reach_lt hok k hlt l hl; simp only [show l ≠ k by omega, if_false])]
         simpa using hv
       · rw [getD_set_ne _ (Ne.symm hki)] at hkl
         have hks : k < ops.size := by omega
         have hdk : (V fun l => if l = i then v else x l).getD k VAny = (V x).getD k VAny := hdep _ x k (fun l hl => by
          have hll := listed_reach hok (fun i => listed.getD i false) hcl k _ (Array.getElem?_eq_getElem hks) (hcl k _ (Array.getElem?_eq_getElem hks) hkl) l hl
          have hne : l ≠ i := fun e => by rw [e] at hll; rw [hil'] at hll; cases hll
          simp only [hne, if_false])
         simp only [hki, if_false]
         rw [hdk]
         have hb0 : ∀ j, j < m → k ∈ C.getD j [] → listed.getD j false = false := fun j hj hc => by
          have h1 := hcons j hj hc
          by_cases hji : j = i
          · rw [hji]; exact hil'
          · rwa [getD_set_ne _ (Ne.symm hji)] at h1
         have hkC : k ∉ C.getD i [] := fun hc => by
          have h1 := hcons i him hc
          simp [hsz, hlt] at h1
         have hiR : i ∉ R.getD k [] := fun hik => by
          have := listed_reach hok (fun i => listed.getD i false) hcl k _ (Array.getElem?_eq_getElem hks) (hcl k _ (Array.getElem?_eq_getElem hks) hkl) i hik
          rw [hil'] at this; cases this
         cases he : (C.getD i []).isEmpty
         · replace hb : Rel w w' := by unfold StepR at hb; rw [he] at hb; exact hb
           exact hweak i him he k hk hki hiR hkC x _ _ _ (hV k hk hkl hb0) hb
         · replace hb : Below w.heap.size w w' := by unfold StepR at hb; rw [he] at hb; exact hb
           exact ((V x).getD k VAny).st _ _ _ (hV k hk hkl hb0) hb
    unfold wpOp at hob' ⊢
    simp only [ho] at hob' ⊢
    rw [wanted_same hagree]
    split
    · rename_i hw
      rw [if_pos hw] at hob'
      rcases hob' with h | ⟨_, h⟩
      case inr => exact absurd h NoWay.lets
      refine .inl (Oper.wp_mono ?_ (wp_move (Q := Q) (d := d) (R := fun v w' => ((V x).getD i VAny).p v w' ∧ StepR C Rel i w w') (exec_same hso hagree) hd (by unfold putS; rw [hsz1.1]; exact hdsz)
       (Oper.wp_mono (fun a' w' ⟨v, h1, h2, h3, h4⟩ => ⟨v, h1 d hdst, by unfold putS; rw [hsz1.2]; exact h2, h3, h4⟩) h)))
      rintro a' w' ⟨v, rfl, hv, hb⟩
      exact next v w' hv hb
    · rename_i hw
      rw [if_neg hw] at hob'
      obtain ⟨v, h1, _, h3, h4⟩ := hob'
      have hvu : v = undef := by
       have := h1 d hdst
       rw [hd] at this
       simp [Act.put, putS, hsz1.1, hdsz] at this
       exact this.symm
      rw [hd]
      exact next undef w (hvu ▸ h3) h4
/-- **A region that draws its order**: each of its first m operations is shown once; what is left behind them goes on. -/
theorem wp_tasksR {id m : Nat} {Rel : World → World → Prop} (R C : List (List Nat)) (V : (Nat → Value) → List VP) (S : World → Prop) {a0 : Act} {w : World} (hm : P.follows .mixedOrders = true) (hok : tasksOk ops m a0.tmps.size R = true)
    (hdep : ∀ x x' j, (∀ i ∈ R.getD j [], x i = x' i) → (V x).getD j VAny = (V x').getD j VAny) (hweak : ∀ i, i < m → (C.getD i []).isEmpty = false → ∀ k, k < m → k ≠ i → i ∉ R.getD k [] → k ∉ C.getD i [] → ∀ x v w w', ((V x).getD k VAny).p v w → Rel w w' → ((V x).getD k VAny).p v w') (hS0 : S w.drew) (hSt : ∀ j w w', S w → StepR C Rel j w w' → S w') (hob : ∀ x j, j < m → ObR P ops S R C Rel m V x a0 j)
    (hend : ∀ x w', S w' → (∀ i ∈ endR C m, ((V x).getD i VAny).p (x i) w') → wpAny P .any ops Q (ops.size - m) (listedTo ops.size m) (putS ops x a0 m) w') : (Code.region id ops true).wp P Q a0 w := by
 have hmn := (tasks_spec hok).1
 have hf : ∀ i, (Array.replicate ops.size false).getD i false = false := fun i => by simp [Array.getD]
 have h := tasks_goR (Q := Q) hok hdep hweak hSt hob hend m (List.range m) (Array.replicate ops.size false) w.drew (fun _ => undef) (by simp) List.nodup_range (fun i => by rw [hf]; simp) (by simp) (fun i _ _ => hf i) (fun j o _ hj => by rw [hf] at hj; cases hj) hS0
  (fun i _ hi => by rw [hf] at hi; cases hi)
 refine wp_region_any hm ?_
 rw [show ops.size - m + m = ops.size by omega, putD_congr (ops := ops) _ (fun _ => false) _ (fun _ => undef) a0 m (fun i _ => ⟨hf i, fun _ => rfl⟩)] at h
 have e : ∀ n, putD ops (fun _ => false) (fun _ => undef) a0 n = a0 := fun n => by
  induction n with
  | zero => rfl
  | succ n ih => unfold putD; simpa using ih
 rw [e] at h
 exact h
/-- What is to be shown, operation by operation, in the text's order; the frame goes along. -/
def ObsR (P : Program) (ops : Array Oper) (Q : Exit → Act → World → Prop) (S : World → Prop) (R C : List (List Nat)) (Rel : World → World → Prop) (m : Nat) (V : (Nat → Value) → List VP) (x : Nat → Value) : Nat → Nat → Act → Prop
 | 0, j, a => ∀ w, S w → (∀ i ∈ endR C m, ((V x).getD i VAny).p (x i) w) → wpAny P .any ops Q (ops.size - j) (listedTo ops.size j) a w
 | r + 1, j, a => (∀ w, S w → (∀ i ∈ availR R C m j, ((V x).getD i VAny).p (x i) w) →
     wpOp P ops NoWay j (fun a' w' => ∃ v, (∀ d, dstOf ops j = some d → a'.tmps[d]? = some v) ∧ a'.defers = a.defers ∧ ((V x).getD j VAny).p v w' ∧ StepR C Rel j w w') a w) ∧
  ObsR P ops Q S R C Rel m V x r (j + 1) (a.put (dstOf ops j) (x j))
theorem obs_allR {S : World → Prop} {R C : List (List Nat)} {Rel : World → World → Prop} {m : Nat} {V : (Nat → Value) → List VP} {x : Nat → Value} {a0 : Act} : ∀ (r j : Nat), ObsR P ops Q S R C Rel m V x r j (putS ops x a0 j) →
    (∀ k, j ≤ k → k < j + r → ObR P ops S R C Rel m V x a0 k) ∧ ∀ w, S w → (∀ i ∈ endR C m, ((V x).getD i VAny).p (x i) w) → wpAny P .any ops Q (ops.size - (j + r)) (listedTo ops.size (j + r)) (putS ops x a0 (j + r)) w := by
 intro r
 induction r with
 | zero => intro j h; exact ⟨fun k h1 h2 => by omega, h⟩
 | succ r ih =>
  intro j h
  obtain ⟨h1, h2⟩ := h
  have h2' : ObsR P ops Q S R C Rel m V x r (j + 1) (putS ops x a0 (j + 1)) := h2
  obtain ⟨h3, h4⟩ := ih (j + 1) h2'
  refine ⟨fun k hk1 hk2 => ?_, by rw [show j + (r + 1) = j + 1 + r by omega]; exact h4⟩
  by_cases hk : k = j
  · subst hk
    intro w hS hV
    have h := h1 w hS hV
    rw [show (putS ops x a0 k).defers = a0.defers from (putD_size _ _ _ _).2] at h
    exact h
  · exact h3 k (by omega) (by omega)
theorem wp_obsR {id : Nat} (m : Nat) (Rel : World → World → Prop) (R C : List (List Nat)) (V : (Nat → Value) → List VP) (S : World → Prop) {a0 : Act} {w : World} (hm : P.follows .mixedOrders = true) (hok : tasksOk ops m a0.tmps.size R = true)
    (hdep : ∀ x x' j, (∀ i ∈ R.getD j [], x i = x' i) → (V x).getD j VAny = (V x').getD j VAny) (hweak : ∀ i, i < m → (C.getD i []).isEmpty = false → ∀ k, k < m → k ≠ i → i ∉ R.getD k [] → k ∉ C.getD i [] → ∀ x v w w', ((V x).getD k VAny).p v w → Rel w w' → ((V x).getD k VAny).p v w') (hSt : ∀ j w w', S w → StepR C Rel j w w' → S w') (hS0 : S w.drew) (h : ∀ x, ObsR P ops Q S R C Rel m V x m 0 a0) : (Code.region id ops true).wp P Q a0 w :=
 wp_tasksR (m := m) (Rel := Rel) R C V S hm hok hdep hweak hS0 hSt (fun x j hj => (obs_allR m 0 (h x)).1 j (by omega) (by omega)) (fun x w' hS hV => by
  have := (obs_allR m 0 (h x)).2 w' hS (hV)
  rwa [Nat.zero_add] at this)
theorem obs_stepR {S : World → Prop} {R C : List (List Nat)} {Rel : World → World → Prop} {m : Nat} {V : (Nat → Value) → List VP} {x : Nat → Value} {r j : Nat} {a : Act} {o : Oper} {d : Tmp} (ho : ops[j]? = some o) (hd : o.dst = some d)
    (h : ∀ w, S w → (∀ i ∈ availR R C m j, ((V x).getD i VAny).p (x i) w) → ∀ K : Act → World → Prop, Shut (∀ a' w' v, a'.tmps[d]? = some v → a'.defers = a.defers → ((V x).getD j VAny).p v w' → StepR C Rel j w w' → K a' w') →
     if Region.wanted o (yielded ops a.tmps) = true then Oper.wp P o a w K NoWay else K (a.put o.dst undef) w)
    (hr : ObsR P ops Q S R C Rel m V x r (j + 1) { a with tmps := a.tmps.setIfInBounds d (x j) }) : ObsR P ops Q S R C Rel m V x (r + 1) j a := by
 have hdst : dstOf ops j = some d := by simp [dstOf, ho, hd]
 refine ⟨fun w hS hV => wpOp_step ho (fun K hK => ?_), by rw [hdst]; exact hr⟩
 exact h w hS hV K (fun a' w' v h1 h2 h3 h4 => hK a' w' ⟨v, fun d' hd' => by rw [hdst] at hd'; injection hd' with hd'; exact hd' ▸ h1, h2, h3, h4⟩)
/-- A step, its listing read by itself. -/
theorem zSR {S : World → Prop} {R C : List (List Nat)} {Rel : World → World → Prop} {m : Nat} {V : (Nat → Value) → List VP} {x : Nat → Value} {r j : Nat} {a a' : Act} {o : Oper} {d : Tmp}
    (h : ∀ w, S w → (∀ i ∈ availR R C m j, ((V x).getD i VAny).p (x i) w) → ∀ K : Act → World → Prop, Shut (∀ a' w' v, a'.tmps[d]? = some v → a'.defers = a.defers → ((V x).getD j VAny).p v w' → StepR C Rel j w w' → K a' w') →
     if Region.wanted o (yielded ops a.tmps) = true then Oper.wp P o a w K NoWay else K (a.put o.dst undef) w)
    (hr : ObsR P ops Q S R C Rel m V x r (j + 1) a') (ho : ops[j]? = some o := by exact Eq.trans (by simp only [zA, zB, zC]; exact rfl) rfl) (hd : o.dst = some d := by exact rfl)
    (ha : { a with tmps := a.tmps.setIfInBounds d (x j) } = a' := by simp only [zD, zE, zF]; exact rfl) : ObsR P ops Q S R C Rel m V x (r + 1) j a := by
 subst ha
 exact obs_stepR ho hd h hr
/-- Those that bear an append in place: their values are plain. -/
theorem weak_ofR {m : Nat} {Rel : World → World → Prop} {R C : List (List Nat)} {V : (Nat → Value) → List VP} (Wk : List Nat)
    (hchk : ((List.range m).all fun i => (C.getD i []).isEmpty || (List.range m).all fun k => k == i || (R.getD k []).contains i || (C.getD i []).contains k || Wk.contains k) = true)
    (hW : ∀ k ∈ Wk, ∀ x v w w', ((V x).getD k VAny).p v w → Rel w w' → ((V x).getD k VAny).p v w') :
    ∀ i, i < m → (C.getD i []).isEmpty = false → ∀ k, k < m → k ≠ i → i ∉ R.getD k [] → k ∉ C.getD i [] → ∀ x v w w', ((V x).getD k VAny).p v w → Rel w w' → ((V x).getD k VAny).p v w' := by
 intro i hi he k hk hne hR hC x v w w' hp hrel
 have h1 := List.all_eq_true.1 hchk i (List.mem_range.2 hi)
 rw [he, Bool.false_or] at h1
 have h2 := List.all_eq_true.1 h1 k (List.mem_range.2 hk)
 rw [Bool.or_eq_true, Bool.or_eq_true, Bool.or_eq_true, beq_iff_eq, List.contains_iff_mem, List.contains_iff_mem, List.contains_iff_mem] at h2
 rcases h2 with ((h2 | h2) | h2) | h2
 · exact absurd h2 hne
 · exact absurd h2 hR
 · exact absurd h2 hC
 · exact hW k h2 x v w w' hp hrel
end
end Go.Proofs.YtmkjdpnoloofjaaGreat

/-
  What a bivector does to a vector is linear: the product with its matrix.
-/
import Derived.Test.YtgfgnpdnppggeaaGreatTurn
namespace Go.Proofs.YtgfgnpdnppggeaaGreat
open Go.RowKit

/-- A function of lists of n numbers is linear, but for multiples of P. -/
def LinF (P : Int) (n : Nat) (F : List Int → Int) : Prop := ∀ v : List Int, v.length = n → NumsL P v → F v % P = (sumTo n fun k => F (unitRow n k) * v.getD k 0) % P
section
variable {P : Int} {n : Nat} {F G : List Int → Int}
theorem LinF.congr (hp : 2 ≤ P) (h : LinF P n F) (he : ∀ v : List Int, v.length = n → NumsL P v → G v % P = F v % P) : LinF P n G := fun v hv hn => by
  rw [he v hv hn, h v hv hn]
  refine sumTo_mod P fun k _ => ?_
  rw [Int.mul_emod, ← he _ (unitRow_len n k) (unitRow_nums hp n k), ← Int.mul_emod]
theorem LinF.mul (h : LinF P n F) (c : Int) : LinF P n (fun v => c * F v) := fun v hv hn => by
  show c * F v % P = _
  rw [Int.mul_emod, h v hv hn, ← Int.mul_emod, ← sumTo_mul]
  refine sumTo_mod P fun k _ => ?_
  rw [Int.mul_assoc]
theorem LinF.add (h : LinF P n F) (h' : LinF P n G) : LinF P n (fun v => F v + G v) := fun v hv hn => by
  show (F v + G v) % P = _
  rw [Int.add_emod, h v hv hn, h' v hv hn, ← Int.add_emod, ← sumTo_add]
  refine sumTo_mod P fun k _ => ?_
  rw [Int.add_mul]
theorem LinF.zero : LinF P n (fun _ => 0) := fun v _ _ => by
  show (0 : Int) % P = _
  rw [sumTo_zero fun k _ => by simp]
theorem LinF.sum {H : Nat → List Int → Int} : ∀ (N : Nat), (∀ a, a < N → LinF P n (H a)) → LinF P n (fun v => sumTo N fun a => H a v)
  | 0, _ => LinF.zero
  | N + 1, h => (LinF.sum N fun a ha => h a (by omega)).add (h N (by omega))
end
/-- Where a vector's numbers lie in its multivector. -/
theorem vecTo_getD {n : Nat} (v : List Int) {b : Nat} (hb : b < pw n) : ∀ k, k ≤ n → (vecTo n v k).getD b 0 = sumTo k fun i => if b = 2 ^ i then v.getD i 0 else 0 := by
  intro k
  induction k with
  | zero => intro _; simp [vecTo, sumTo, List.getD_eq_getElem?_getD, hb]
  | succ k ih =>
    intro hk
    rw [vecTo_succ, sumTo_succ, List.getD_eq_getElem?_getD, List.getElem?_set]
    have hl : 2 ^ k < (vecTo n v k).length := by rw [vecTo_len]; exact two_lt (by omega)
    by_cases h : b = 2 ^ k
    · rw [if_pos h.symm, if_pos hl, if_pos h]
      have h0 : (sumTo k fun i => if b = 2 ^ i then v.getD i 0 else 0) = 0 := sumTo_zero fun i hi => by
        rw [if_neg]
        intro e
        have : 2 ^ i < 2 ^ k := Nat.pow_lt_pow_right (by omega) hi
        omega
      rw [h0]
      simp
    · rw [if_neg (fun e => h e.symm), if_neg h, ← ih (by omega), Int.add_zero, List.getD_eq_getElem?_getD]
theorem unitRow_getD {n k i : Nat} (hi : i < n) : (unitRow n k).getD i 0 = if k = i then 1 else 0 := by
  unfold unitRow
  rw [List.getD_eq_getElem?_getD, List.getElem?_set]
  by_cases h : k = i
  · rw [if_pos h, if_pos (by simp; omega), if_pos h]; rfl
  · rw [if_neg h, if_neg h, List.getElem?_replicate, if_pos hi]; rfl
theorem LinF.vec {P : Int} {n b : Nat} (hb : b < pw n) : LinF P n (fun v => (vecTo n v n).getD b 0) := fun v _ _ => by
  show (vecTo n v n).getD b 0 % P = _
  rw [vecTo_getD v hb n (Nat.le_refl _)]
  refine sumTo_mod P fun k hk => ?_
  show _ = (vecTo n (unitRow n k) n).getD b 0 * v.getD k 0 % P
  rw [vecTo_getD _ hb n (Nat.le_refl _)]
  congr 1
  rw [sumTo_one k hk fun i hi hne => by
    split
    · rw [unitRow_getD hi, if_neg (fun e => hne e.symm)]
    · rfl]
  rw [unitRow_getD hk, if_pos rfl]
  split
  · simp
  · simp
/-- The bracket with a vector, at a place. -/
theorem LinF.brk {P : Int} {sq : List Int} {n : Nat} {xs : List Int} (hx : xs.length = pw n) (_hxs : NumsL P xs) (hp : 2 ≤ P) {m : Nat} (hm : m < pw n) :
    LinF P n (fun v => (plusL P (mulL P sq xs (vecTo n v n)) (mulL P sq (vecTo n v n) xs) (-1)).getD m 0) := by
  have h1 : LinF P n (fun v => sumTo (pw n) fun a => xs.getD a 0 * fac P sq a (a ^^^ m) * (vecTo n v n).getD (a ^^^ m) 0) :=
    LinF.sum _ fun a ha => (LinF.vec (xor_lt ha hm)).mul _
  have h2 : LinF P n (fun v => sumTo (pw n) fun a => xs.getD (a ^^^ m) 0 * fac P sq a (a ^^^ m) * (vecTo n v n).getD a 0) :=
    LinF.sum _ fun a ha => (LinF.vec ha).mul _
  refine LinF.congr hp (h1.add (h2.mul (-1))) fun v hv _ => ?_
  have hl := vecTo_len n v n
  show (plusL P (mulL P sq xs (vecTo n v n)) (mulL P sq (vecTo n v n) xs) (-1)).getD m 0 % P = _
  rw [plusL_getD _ _ (by rw [mulL_len, hx]; exact hm), Int.emod_emod_of_dvd _ (Int.dvd_refl P)]
  unfold mulL
  rw [prodL_getD P sq _ xs _ n m hx hl hm, prodL_getD P sq _ _ xs n m hl hx hm]
  rw [Int.add_emod, Int.emod_emod_of_dvd _ (Int.dvd_refl P), Int.mul_emod (-1), Int.emod_emod_of_dvd _ (Int.dvd_refl P), ← Int.mul_emod, ← Int.add_emod]
  congr 1
  congr 1
  · refine sumTo_congr fun a _ => ?_
    unfold term
    rw [if_pos rfl, Int.mul_assoc, Int.mul_comm ((vecTo n v n).getD (a ^^^ m) 0), ← Int.mul_assoc]
  · congr 1
    refine sumTo_congr fun a _ => ?_
    unfold term
    rw [if_pos rfl, Int.mul_comm ((vecTo n v n).getD a 0), Int.mul_assoc, Int.mul_comm ((vecTo n v n).getD a 0), ← Int.mul_assoc]
/-- The columns of a bivector's matrix. -/
def colsL (P : Int) (sq : List Int) (n : Nat) (xs : List Int) : List (List Int) := tab n fun k => turnL P sq n xs (unitRow n k)
theorem colsL_len (P : Int) (sq : List Int) (n : Nat) (xs : List Int) : (colsL P sq n xs).length = n := tab_len _ _
theorem colsL_tab {P : Int} (hp : 2 ≤ P) (sq : List Int) (n : Nat) (xs : List Int) : Tab P n (colsL P sq n xs) :=
  Tab.tab fun _ _ => ⟨turnL_len _ _ _ _ _, turnL_nums hp _ _ _ _⟩
theorem turnL_lin {P : Int} {sq : List Int} {n : Nat} {xs : List Int} (hx : xs.length = pw n) (hxs : NumsL P xs) (hp : 2 ≤ P) {i : Nat} (hi : i < n) :
    LinF P n (fun v => (turnL P sq n xs v).getD i 0) := by
  refine LinF.congr hp ((LinF.brk (sq := sq) hx hxs hp (two_lt hi)).mul (invF P 2)) fun v hv hn => ?_
  have hl : (partL n (brkL P sq n xs (vecTo n v n))).length = n := partL_len _ _
  show (turnL P sq n xs v).getD i 0 % P = _
  unfold turnL
  rw [scaleL_getD _ (by rw [hl]; exact hi), Int.emod_emod_of_dvd _ (Int.dvd_refl P), Int.mul_comm]
  congr 2
  simp only [partL, List.getD_eq_getElem?_getD, List.getElem?_map, List.getElem?_range hi, Option.map_some, Option.getD_some]
  unfold brkL
  rw [timesL_two P sq n _ _ hx hxs, timesL_two P sq n _ _ (vecTo_len _ _ _) (vecTo_nums (by omega) n v hn n)]
/-- The product of a bivector's matrix and a vector. -/
theorem apply_turn {P : Int} {sq : List Int} {n : Nat} {xs v : List Int} (hx : xs.length = pw n) (hxs : NumsL P xs) (hp : 2 ≤ P) (h0 : 0 < n) (hv : v.length = n) (hvn : NumsL P v) :
    applyL P (transL (colsL P sq n xs)) v = turnL P sq n xs v := by
  have hcl := colsL_len P sq n xs
  have htl : (transL (colsL P sq n xs)).length = n := transL_len (colsL_tab hp sq n xs) (by rw [hcl]; exact h0)
  apply list_ext_getD 0 (by unfold applyL; rw [tab_len, htl, turnL_len])
  intro i hi
  have hi' : i < n := by unfold applyL at hi; rw [tab_len, htl] at hi; exact hi
  unfold applyL
  rw [tab_getD (by rw [htl]; exact hi') 0]
  have hrow : (transL (colsL P sq n xs)).getD i [] = tab n fun k => (turnL P sq n xs (unitRow n k)).getD i 0 := by
    unfold transL
    have h1 : ((colsL P sq n xs).getD 0 []).length = n := ((colsL_tab hp sq n xs).row (by rw [hcl]; exact h0)).1
    rw [h1, tab_getD hi' [], hcl]
    refine tab_congr fun k hk => ?_
    unfold ent colsL
    rw [tab_getD hk []]
  rw [hrow]
  unfold dotL
  rw [tab_len]
  have hl := turnL_lin (sq := sq) hx hxs hp hi' v hv hvn
  have hs : (turnL P sq n xs v).getD i 0 % P = (turnL P sq n xs v).getD i 0 := by
    obtain ⟨a, b⟩ := (turnL_nums hp sq n xs v).getD (show 0 < P by omega) i
    exact Int.emod_eq_of_lt a b
  rw [← hs, hl]
  refine sumTo_mod P fun k hk => ?_
  rw [tab_getD hk 0]
end Go.Proofs.YtgfgnpdnppggeaaGreat

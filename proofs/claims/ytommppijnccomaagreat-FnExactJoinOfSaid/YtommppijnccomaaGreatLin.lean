/-
  Plain mathematics: tables, sums, matrices as lists of lists, elimination. No program in sight.
-/
import Derived.Test.YtommppijnccomaaGreatF1
import Derived.Test.YtommppijnccomaaGreatUnit
namespace Go.Proofs.YtommppijnccomaaGreat

/-- The list of the values of f from 0 on. -/
def tab {α : Type} (n : Nat) (f : Nat → α) : List α := (List.range n).map f
theorem tab_len {α : Type} (n : Nat) (f : Nat → α) : (tab n f).length = n := by simp [tab]
theorem tab_zero {α : Type} (f : Nat → α) : tab 0 f = [] := rfl
theorem tab_succ {α : Type} (n : Nat) (f : Nat → α) : tab (n + 1) f = tab n f ++ [f n] := by simp [tab, List.range_succ]
theorem tab_get {α : Type} (n : Nat) (f : Nat → α) (i : Nat) (h : i < (tab n f).length) : (tab n f)[i] = f i := by simp [tab]
theorem tab_getD {α : Type} {n : Nat} {f : Nat → α} {i : Nat} (h : i < n) (d : α) : (tab n f).getD i d = f i := by
  rw [List.getD_eq_getElem?_getD, List.getElem?_eq_getElem (by rw [tab_len]; exact h), tab_get]; rfl
theorem tab_congr {α : Type} {n : Nat} {f g : Nat → α} (h : ∀ i, i < n → f i = g i) : tab n f = tab n g := by
  apply List.map_congr_left
  intro i hi
  exact h i (by simpa using hi)
theorem tab_mem {α : Type} {n : Nat} {f : Nat → α} {x : α} (h : x ∈ tab n f) : ∃ i, i < n ∧ x = f i := by
  obtain ⟨i, hi, rfl⟩ := List.mem_map.1 h
  exact ⟨i, by simpa using hi, rfl⟩
theorem list_ext_getD {α : Type} {xs ys : List α} (d : α) (hl : xs.length = ys.length) (h : ∀ i, i < xs.length → xs.getD i d = ys.getD i d) : xs = ys := by
  apply List.ext_getElem hl
  intro i h1 h2
  have := h i h1
  rw [List.getD_eq_getElem?_getD, List.getD_eq_getElem?_getD, List.getElem?_eq_getElem h1, List.getElem?_eq_getElem h2] at this
  exact this
theorem eq_tab {α : Type} {n : Nat} (d : α) {xs : List α} (hl : xs.length = n) : xs = tab n fun i => xs.getD i d := by
  apply list_ext_getD d (by rw [tab_len, hl])
  intro i hi
  rw [tab_getD (by omega)]
theorem getD_of_lt {α : Type} {xs : List α} {i : Nat} (d : α) (h : i < xs.length) : xs.getD i d = xs[i] := by
  rw [List.getD_eq_getElem?_getD, List.getElem?_eq_getElem h]; rfl
theorem getD_of_ge {α : Type} {xs : List α} {i : Nat} (d : α) (h : xs.length ≤ i) : xs.getD i d = d := by
  rw [List.getD_eq_getElem?_getD, List.getElem?_eq_none h]; rfl
theorem getD_set {α : Type} (xs : List α) (i j : Nat) (v d : α) : (xs.set i v).getD j d = if i = j ∧ i < xs.length then v else xs.getD j d := by
  rw [List.getD_eq_getElem?_getD, List.getD_eq_getElem?_getD, List.getElem?_set]
  by_cases h1 : i = j
  · subst h1
    by_cases h2 : i < xs.length
    · simp [h2]
    · simp [h2]
  · simp [h1]
theorem getD_mem {α : Type} {xs : List α} {i : Nat} (d : α) (h : i < xs.length) : xs.getD i d ∈ xs := by
  rw [getD_of_lt d h]; exact List.getElem_mem h

theorem all_one {α : Type} {q : α → Prop} {x : α} (hx : q x) : ∀ z ∈ [x], q z := fun z hz => by
  rcases List.mem_cons.1 hz with rfl | hz
  · exact hx
  · cases hz
theorem all_two {α : Type} {q : α → Prop} {x y : α} (hx : q x) (hy : q y) : ∀ z ∈ [x, y], q z := fun z hz => by
  rcases List.mem_cons.1 hz with rfl | hz
  · exact hx
  · rcases List.mem_cons.1 hz with rfl | hz
    · exact hy
    · cases hz
theorem all_three {α : Type} {q : α → Prop} {x y u : α} (hx : q x) (hy : q y) (hu : q u) : ∀ z ∈ [x, y, u], q z := fun z hz => by
  rcases List.mem_cons.1 hz with rfl | hz
  · exact hx
  · exact all_two hy hu z hz

/-- f 0 + .. + f (n - 1). -/
def sumTo : Nat → (Nat → Int) → Int
  | 0, _ => 0
  | n + 1, f => sumTo n f + f n
theorem sumTo_succ (n : Nat) (f : Nat → Int) : sumTo (n + 1) f = sumTo n f + f n := rfl
theorem sumTo_congr {n : Nat} {f g : Nat → Int} (h : ∀ i, i < n → f i = g i) : sumTo n f = sumTo n g := by
  induction n with
  | zero => rfl
  | succ n ih => rw [sumTo_succ, sumTo_succ, ih (fun i hi => h i (by omega)), h n (by omega)]
theorem sumTo_bound {n : Nat} {f : Nat → Int} {b : Int} (h : ∀ i, i < n → 0 ≤ f i ∧ f i ≤ b) : 0 ≤ sumTo n f ∧ sumTo n f ≤ n * b := by
  induction n with
  | zero => simp [sumTo]
  | succ n ih =>
    have h1 := ih (fun i hi => h i (by omega))
    have h2 := h n (by omega)
    rw [sumTo_succ]
    have e : ((n + 1 : Nat) : Int) * b = n * b + b := by rw [Int.natCast_add, Int.add_mul]; simp
    rw [e]; omega
theorem sumTo_mod (p : Int) {n : Nat} {f g : Nat → Int} (h : ∀ i, i < n → f i % p = g i % p) : sumTo n f % p = sumTo n g % p := by
  induction n with
  | zero => rfl
  | succ n ih =>
    rw [sumTo_succ, sumTo_succ, Int.add_emod, ih (fun i hi => h i (by omega)), h n (by omega), ← Int.add_emod]
/-- A sum whose parts are reduced at each step. -/
theorem sumTo_step (p : Int) (n : Nat) (f : Nat → Int) : (sumTo n f % p + f n) % p = sumTo (n + 1) f % p := by
  rw [sumTo_succ, Int.emod_add_emod]

/-- The product of two lists. -/
def dotL (p : Int) (a b : List Int) : Int := (sumTo a.length fun i => a.getD i 0 * b.getD i 0) % p
/-- A list and a multiple of another one. -/
def plusL (p : Int) (a b : List Int) (k : Int) : List Int := tab a.length fun i => (a.getD i 0 + k * b.getD i 0) % p
theorem plusL_len (p : Int) (a b : List Int) (k : Int) : (plusL p a b k).length = a.length := tab_len _ _
theorem plusL_nums {p : Int} (hp : 0 < p) (a b : List Int) (k : Int) : NumsL p (plusL p a b k) := fun x hx => by
  obtain ⟨i, _, rfl⟩ := tab_mem hx
  exact ⟨Int.emod_nonneg _ (by omega), Int.emod_lt_of_pos _ hp⟩
theorem plusL_getD {p : Int} {a : List Int} (b : List Int) (k : Int) {i : Nat} (h : i < a.length) : (plusL p a b k).getD i 0 = (a.getD i 0 + k * b.getD i 0) % p := tab_getD h 0
theorem plusL_zero {p : Int} (a b : List Int) (h : NumsL p a) : plusL p a b 0 = a := by
  apply list_ext_getD 0 (plusL_len _ _ _ _)
  intro i hi
  rw [plusL_len] at hi
  rw [plusL_getD _ _ hi, Int.zero_mul, Int.add_zero]
  obtain ⟨h1, h2⟩ := h _ (getD_mem 0 hi)
  exact Int.emod_eq_of_lt h1 h2
theorem plusL_mod (p : Int) (a b : List Int) {k k' : Int} (h : k % p = k' % p) : plusL p a b k = plusL p a b k' := by
  apply tab_congr
  intro i _
  rw [Int.add_emod, Int.mul_emod, h, ← Int.mul_emod, ← Int.add_emod]
theorem scaleL_getD {p : Int} {a : List Int} (k : Int) {i : Nat} (h : i < a.length) : (scaleL p a k).getD i 0 = (a.getD i 0 * k) % p := by
  rw [getD_of_lt 0 (by rw [scaleL_len]; exact h), getD_of_lt 0 h]; simp [scaleL]
theorem scaleL_nums {p : Int} (hp : 0 < p) (a : List Int) (k : Int) : NumsL p (scaleL p a k) := fun x hx => by
  obtain ⟨i, _, rfl⟩ := List.mem_map.1 hx
  exact ⟨Int.emod_nonneg _ (by omega), Int.emod_lt_of_pos _ hp⟩

theorem invF_small {p : Int} (hp : 2 ≤ p) (a : Int) : 0 ≤ invF p a ∧ invF p a < p := powF_small p a hp _

/-- The number in row i and column k. -/
def ent (m : List (List Int)) (i k : Nat) : Int := (m.getD i []).getD k 0
/-- All rows have n numbers. -/
def Tab (p : Int) (n : Nat) (m : List (List Int)) : Prop := ∀ x ∈ m, x.length = n ∧ NumsL p x
theorem Tab.nil (p : Int) (n : Nat) : Tab p n [] := fun x hx => absurd hx (by simp)
theorem Tab.row {p : Int} {n : Nat} {m : List (List Int)} (h : Tab p n m) {i : Nat} (hi : i < m.length) : (m.getD i []).length = n ∧ NumsL p (m.getD i []) := h _ (getD_mem [] hi)
theorem Tab.ent {p : Int} {n : Nat} {m : List (List Int)} (h : Tab p n m) (hp : 0 < p) (i k : Nat) : 0 ≤ ent m i k ∧ ent m i k < p := by
  unfold Proofs.YtommppijnccomaaGreat.ent
  by_cases hi : i < m.length
  · exact (h.row hi).2.getD hp k
  · rw [getD_of_ge [] (by omega)]; simp [hp]
theorem Tab.set {p : Int} {n : Nat} {m : List (List Int)} (h : Tab p n m) (i : Nat) {x : List Int} (hx : x.length = n ∧ NumsL p x) : Tab p n (m.set i x) := fun y hy => by
  rcases List.mem_or_eq_of_mem_set hy with h1 | h1
  · exact h y h1
  · exact h1 ▸ hx
theorem Tab.snoc {p : Int} {n : Nat} {m : List (List Int)} (h : Tab p n m) {x : List Int} (hx : x.length = n ∧ NumsL p x) : Tab p n (m ++ [x]) := fun y hy => by
  rcases List.mem_append.1 hy with h1 | h1
  · exact h y h1
  · simp at h1; exact h1 ▸ hx
theorem Tab.append {p : Int} {n : Nat} {m m' : List (List Int)} (h : Tab p n m) (h' : Tab p n m') : Tab p n (m ++ m') := fun y hy => by
  rcases List.mem_append.1 hy with h1 | h1
  · exact h y h1
  · exact h' y h1
theorem Tab.take {p : Int} {n : Nat} {m : List (List Int)} (h : Tab p n m) (k : Nat) : Tab p n (m.take k) := fun y hy => h y (List.mem_of_mem_take hy)
theorem Tab.tab {p : Int} {n k : Nat} {f : Nat → List Int} (h : ∀ i, i < k → (f i).length = n ∧ NumsL p (f i)) : Tab p n (tab k f) := fun y hy => by
  obtain ⟨i, hi, rfl⟩ := tab_mem hy
  exact h i hi
theorem unitRow_nums {p : Int} (hp : 2 ≤ p) (n i : Nat) : NumsL p (unitRow n i) := (NumsL.replicate (by omega) n).set i ⟨by omega, by omega⟩
theorem unitM_tab {p : Int} (hp : 2 ≤ p) (n : Nat) : Tab p n (unitM n) := fun y hy => by
  obtain ⟨i, _, rfl⟩ := List.mem_map.1 hy
  exact ⟨unitRow_len n i, unitRow_nums hp n i⟩

/-- Rows and columns exchanged. -/
def transL (m : List (List Int)) : List (List Int) := tab (m.getD 0 []).length fun k => tab m.length fun i => ent m i k
theorem transL_len {p : Int} {n : Nat} {m : List (List Int)} (h : Tab p n m) (hm : 0 < m.length) : (transL m).length = n := by
  unfold transL; rw [tab_len, (h.row hm).1]
theorem NumsL.tab {p : Int} {n : Nat} {f : Nat → Int} (h : ∀ i, i < n → 0 ≤ f i ∧ f i < p) : NumsL p (tab n f) := fun y hy => by
  obtain ⟨i, hi, rfl⟩ := tab_mem hy
  exact h i hi
theorem transL_tab {p : Int} {n : Nat} {m : List (List Int)} (hp : 0 < p) (h : Tab p n m) : Tab p m.length (transL m) :=
  Tab.tab fun i _ => ⟨tab_len _ _, NumsL.tab fun j _ => h.ent hp j i⟩
/-- The product of a matrix and a list. -/
def applyL (p : Int) (a : List (List Int)) (v : List Int) : List Int := tab a.length fun i => dotL p (a.getD i []) v
/-- The product of two matrices. -/
def timesM (p : Int) (a b : List (List Int)) : List (List Int) := tab a.length fun i => applyL p (transL b) (a.getD i [])
/-- The trace. -/
def traceL (p : Int) (a : List (List Int)) : Int := (sumTo a.length fun i => ent a i i) % p

/-- The first place with a number other than 0, or the length. -/
def leadL : List Int → Nat
  | [] => 0
  | x :: r => if x = 0 then leadL r + 1 else 0
theorem leadL_le (v : List Int) : leadL v ≤ v.length := by
  induction v with
  | nil => simp [leadL]
  | cons x r ih => simp only [leadL, List.length_cons]; split <;> omega
theorem leadL_before (v : List Int) : ∀ i, i < leadL v → v.getD i 0 = 0 := by
  induction v with
  | nil => intro i hi; simp [leadL] at hi
  | cons x r ih =>
    intro i hi
    simp only [leadL] at hi
    split at hi
    · rename_i hx
      cases i with
      | zero => simpa using hx
      | succ i => simpa using ih i (by omega)
    · omega
theorem leadL_at (v : List Int) (h : leadL v < v.length) : v.getD (leadL v) 0 ≠ 0 := by
  induction v with
  | nil => simp at h
  | cons x r ih =>
    simp only [leadL] at h ⊢
    split
    · rename_i hx
      rw [if_pos hx] at h
      simpa using ih (by simpa using h)
    · rename_i hx; simpa using hx
theorem leadL_eq (v : List Int) (i : Nat) (h1 : ∀ j, j < i → v.getD j 0 = 0) (h2 : i = v.length ∨ (i < v.length ∧ v.getD i 0 ≠ 0)) : leadL v = i := by
  rcases Nat.lt_trichotomy (leadL v) i with h | h | h
  · have hl : leadL v < v.length := by rcases h2 with h2 | h2 <;> omega
    exact absurd (h1 _ h) (leadL_at v hl)
  · exact h
  · rcases h2 with h2 | h2
    · have := leadL_le v; omega
    · exact absurd (leadL_before v i h) h2.2

/-- The first row from i on with a number other than 0 in column k, or the number of rows. -/
def piv (m : List (List Int)) (k : Nat) : Nat → Nat → Nat
  | 0, i => i
  | f + 1, i => if ent m i k = 0 then piv m k f (i + 1) else i
theorem piv_bound (m : List (List Int)) (k : Nat) : ∀ f i, i ≤ piv m k f i ∧ piv m k f i ≤ i + f := by
  intro f
  induction f with
  | zero => intro i; simp [piv]
  | succ f ih =>
    intro i
    simp only [piv]
    split
    · have := ih (i + 1); omega
    · omega
theorem piv_before (m : List (List Int)) (k : Nat) : ∀ f i r, i ≤ r → r < piv m k f i → ent m r k = 0 := by
  intro f
  induction f with
  | zero => intro i r h1 h2; simp [piv] at h2; omega
  | succ f ih =>
    intro i r h1 h2
    simp only [piv] at h2
    split at h2
    · rename_i h0
      by_cases hr : r = i
      · exact hr ▸ h0
      · exact ih (i + 1) r (by omega) h2
    · omega
theorem piv_at (m : List (List Int)) (k : Nat) : ∀ f i, piv m k f i < i + f → ent m (piv m k f i) k ≠ 0 := by
  intro f
  induction f with
  | zero => intro i h; simp [piv] at h
  | succ f ih =>
    intro i h
    simp only [piv] at h ⊢
    split
    · rename_i h0
      rw [if_pos h0] at h
      exact ih (i + 1) (by omega)
    · assumption

/-- Rows i and j exchanged. -/
def swapL (m : List (List Int)) (i j : Nat) : List (List Int) := (m.set i (m.getD j [])).set j (m.getD i [])
theorem swapL_len (m : List (List Int)) (i j : Nat) : (swapL m i j).length = m.length := by simp [swapL]
/-- The numbers in column k of the first j rows made 0 by multiples of row d. -/
def clearTo (p : Int) (m : List (List Int)) (d k j : Nat) : List (List Int) :=
  tab m.length fun r => if r < j ∧ r ≠ d then plusL p (m.getD r []) (m.getD d []) (-(ent m r k)) else m.getD r []
theorem clearTo_len (p : Int) (m : List (List Int)) (d k j : Nat) : (clearTo p m d k j).length = m.length := tab_len _ _
theorem clearTo_zero (p : Int) (m : List (List Int)) (d k : Nat) : clearTo p m d k 0 = m := by
  refine Eq.trans (tab_congr fun i _ => ?_) (eq_tab (n := m.length) [] rfl).symm
  rw [if_neg (by omega)]
theorem clearTo_getD {p : Int} {m : List (List Int)} {d k j r : Nat} (h : r < m.length) : (clearTo p m d k j).getD r [] = if r < j ∧ r ≠ d then plusL p (m.getD r []) (m.getD d []) (-(ent m r k)) else m.getD r [] := tab_getD h []
theorem clearTo_succ (p : Int) (m : List (List Int)) (d k j : Nat) (hj : j < m.length) (h : j ≠ d) : clearTo p m d k (j + 1) = (clearTo p m d k j).set j (plusL p (m.getD j []) (m.getD d []) (-(ent m j k))) := by
  apply list_ext_getD [] (by rw [List.length_set, clearTo_len, clearTo_len])
  intro r hr
  rw [clearTo_len] at hr
  rw [getD_set, clearTo_getD hr, clearTo_getD hr, clearTo_len]
  by_cases h1 : j = r
  · subst h1
    rw [if_pos ⟨by omega, h⟩, if_pos ⟨rfl, hj⟩]
  · rw [if_neg (c := j = r ∧ _) (fun hh => h1 hh.1)]
    by_cases h2 : r < j
    · by_cases h3 : r ≠ d
      · rw [if_pos ⟨by omega, h3⟩, if_pos ⟨h2, h3⟩]
      · rw [if_neg (fun hh => h3 hh.2), if_neg (fun hh => h3 hh.2)]
    · rw [if_neg (by omega), if_neg (by omega)]
theorem clearTo_skip (p : Int) (m : List (List Int)) (d k : Nat) : clearTo p m d k (d + 1) = clearTo p m d k d := by
  refine tab_congr fun r _ => ?_
  by_cases h : r < d
  · rw [if_pos ⟨by omega, by omega⟩, if_pos ⟨h, by omega⟩]
  · rw [if_neg (by omega), if_neg (by omega)]
theorem clearTo_tab {p : Int} {n : Nat} {m : List (List Int)} (hp : 0 < p) (h : Tab p n m) (d k j : Nat) : Tab p n (clearTo p m d k j) := by
  refine Tab.tab fun r hr => ?_
  split
  · exact ⟨by rw [plusL_len, (h.row hr).1], plusL_nums hp _ _ _⟩
  · exact h.row hr
/-- Column k with d rows done. -/
def pivOf (m : List (List Int)) (k d : Nat) : Nat := piv m k (m.length - d) d
def scaledAt (p : Int) (m : List (List Int)) (k d : Nat) : List (List Int) :=
  (swapL m d (pivOf m k d)).set d (scaleL p (m.getD (pivOf m k d) []) (invF p (ent m (pivOf m k d) k)))
def stepB (p : Int) (k : Nat) (s : List (List Int) × Nat) : List (List Int) × Nat :=
  if pivOf s.1 k s.2 = s.1.length then s else (clearTo p (scaledAt p s.1 k s.2) s.2 k s.1.length, s.2 + 1)
/-- The first k columns. -/
def basisTo (p : Int) (m : List (List Int)) : Nat → List (List Int) × Nat
  | 0 => (m, 0)
  | k + 1 => stepB p k (basisTo p m k)
/-- The reduced basis of what the rows make. -/
def basisL (p : Int) (m : List (List Int)) : List (List Int) :=
  (basisTo p m (m.getD 0 []).length).1.take (basisTo p m (m.getD 0 []).length).2
theorem scaledAt_len (p : Int) (m : List (List Int)) (k d : Nat) : (scaledAt p m k d).length = m.length := by simp [scaledAt, swapL]
theorem pivOf_bound (m : List (List Int)) (k d : Nat) (h : d ≤ m.length) : d ≤ pivOf m k d ∧ pivOf m k d ≤ m.length := by
  have := piv_bound m k (m.length - d) d
  unfold pivOf; omega
theorem swapL_tab {p : Int} {n : Nat} {m : List (List Int)} (h : Tab p n m) {i j : Nat} (hi : i < m.length) (hj : j < m.length) : Tab p n (swapL m i j) := (h.set i (h.row hj)).set j (h.row hi)
theorem scaledAt_tab {p : Int} {n : Nat} {m : List (List Int)} (hp : 0 < p) (h : Tab p n m) {k d : Nat} (hd : d < m.length) (hv : pivOf m k d < m.length) : Tab p n (scaledAt p m k d) :=
  (swapL_tab h hd hv).set d ⟨by rw [scaleL_len, (h.row hv).1], scaleL_nums hp _ _⟩
theorem stepB_inv {p : Int} {n : Nat} (hp : 0 < p) (k : Nat) (s : List (List Int) × Nat) (h1 : Tab p n s.1) (h2 : s.2 ≤ s.1.length) : Tab p n (stepB p k s).1 ∧ (stepB p k s).1.length = s.1.length ∧ (stepB p k s).2 ≤ s.1.length := by
  unfold stepB
  split
  · exact ⟨h1, rfl, h2⟩
  · rename_i hne
    have hb := pivOf_bound s.1 k s.2 h2
    exact ⟨clearTo_tab hp (scaledAt_tab hp h1 (by omega) (by omega)) _ _ _, by rw [clearTo_len, scaledAt_len], by simp only; omega⟩
theorem basisTo_inv {p : Int} {n : Nat} (hp : 0 < p) (m : List (List Int)) (h : Tab p n m) (k : Nat) : Tab p n (basisTo p m k).1 ∧ (basisTo p m k).1.length = m.length ∧ (basisTo p m k).2 ≤ m.length := by
  induction k with
  | zero => exact ⟨h, rfl, Nat.zero_le _⟩
  | succ k ih =>
    have := stepB_inv hp k (basisTo p m k) ih.1 (by rw [ih.2.1]; exact ih.2.2)
    rw [ih.2.1] at this
    exact this
theorem basisL_tab {p : Int} {n : Nat} (hp : 0 < p) (m : List (List Int)) (h : Tab p n m) : Tab p n (basisL p m) := (basisTo_inv hp m h _).1.take _
theorem basisL_len {p : Int} {n : Nat} (hp : 0 < p) (m : List (List Int)) (h : Tab p n m) : (basisL p m).length = (basisTo p m (m.getD 0 []).length).2 ∧ (basisL p m).length ≤ m.length := by
  have := basisTo_inv hp m h (m.getD 0 []).length
  unfold basisL
  rw [List.length_take, this.2.1]
  omega
/-- All rows done: nothing more happens. -/
theorem stepB_full (p : Int) (k : Nat) (s : List (List Int) × Nat) (h : s.2 = s.1.length) : stepB p k s = s := by
  unfold stepB pivOf
  rw [h, Nat.sub_self]
  simp [piv]
theorem basisTo_full (p : Int) (m : List (List Int)) (k j : Nat) (hkj : k ≤ j) (h : (basisTo p m k).2 = (basisTo p m k).1.length) : basisTo p m j = basisTo p m k := by
  induction j with
  | zero => obtain rfl : k = 0 := by omega
            rfl
  | succ j ih =>
    by_cases hk : k = j + 1
    · rw [hk]
    · have := ih (by omega)
      show stepB p j (basisTo p m j) = _
      rw [this, stepB_full _ _ _ h]

end Go.Proofs.YtommppijnccomaaGreat

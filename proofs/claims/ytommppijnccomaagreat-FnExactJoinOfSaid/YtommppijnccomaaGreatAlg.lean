/-
  Plain mathematics: signs and factors of products of blades; products of multivectors as lists. No program in sight.
-/
namespace Go.Proofs.YtommppijnccomaaGreat

/-- The number of bits of a mask. -/
def pc : Nat → Nat
  | 0 => 0
  | n + 1 => (n + 1) % 2 + pc ((n + 1) / 2)
theorem pc_rec (n : Nat) : pc n = n % 2 + pc (n / 2) := by
  cases n with
  | zero => simp [pc]
  | succ n => rw [pc]
theorem pc_le (k : Nat) : ∀ n, n < 2 ^ k → pc n ≤ k := by
  induction k with
  | zero =>
    intro n h
    obtain rfl : n = 0 := by omega
    simp [pc]
  | succ k ih =>
    intro n h
    rw [pc_rec]
    have := ih (n / 2) (by rw [Nat.pow_succ] at h; omega)
    omega

/-- Bit i of a mask. -/
def bit (a i : Nat) : Nat := a / 2 ^ i % 2

/-- How often the vectors of a that come after the first i of b are passed. -/
def swaps (a b : Nat) : Nat → Nat
  | 0 => 0
  | i + 1 => swaps a b i + (if bit b i = 1 then pc (a / 2 ^ (i + 1)) else 0)

/-- The product of the first i squares that both masks have. -/
def common (p : Int) (sq : List Int) (a b : Nat) : Nat → Int
  | 0 => 1
  | i + 1 => if bit b i = 1 ∧ bit a i = 1 then (common p sq a b i * sq.getD i 0) % p else common p sq a b i

/-- The number by which the product of two blades is that of their different bits. -/
def fac (p : Int) (sq : List Int) (a b : Nat) : Int :=
  if swaps a b sq.length % 2 = 1 then (-(common p sq a b sq.length)) % p else common p sq a b sq.length

theorem common_bound (p : Int) (sq : List Int) (a b : Nat) (hp : 2 ≤ p) : ∀ i, 0 ≤ common p sq a b i ∧ common p sq a b i < p := by
  intro i
  induction i with
  | zero => simp only [common]; omega
  | succ i ih =>
    simp only [common]
    split
    · exact ⟨Int.emod_nonneg _ (by omega), Int.emod_lt_of_pos _ (by omega)⟩
    · exact ih
theorem fac_bound (p : Int) (sq : List Int) (a b : Nat) (hp : 2 ≤ p) : 0 ≤ fac p sq a b ∧ fac p sq a b < p := by
  unfold fac
  split
  · exact ⟨Int.emod_nonneg _ (by omega), Int.emod_lt_of_pos _ (by omega)⟩
  · exact common_bound p sq a b hp _

/-- One pair of blades of a product, added. -/
def addPair (p : Int) (sq : List Int) (takes : Nat → Nat → Bool) (x y : List Int) (a : Nat) (out : List Int) (b : Nat) : List Int :=
  if x.getD a 0 ≠ 0 ∧ y.getD b 0 ≠ 0 ∧ takes a b = true then out.set (a ^^^ b) ((out.getD (a ^^^ b) 0 + x.getD a 0 * y.getD b 0 * fac p sq a b) % p) else out
/-- The first k pairs of row a, added. -/
def addRow (p : Int) (sq : List Int) (takes : Nat → Nat → Bool) (x y : List Int) (a : Nat) (out : List Int) (k : Nat) : List Int := (List.range k).foldl (addPair p sq takes x y a) out
/-- The first k rows, added. -/
def addRows (p : Int) (sq : List Int) (takes : Nat → Nat → Bool) (x y : List Int) (out : List Int) (k : Nat) : List Int := (List.range k).foldl (fun o a => addRow p sq takes x y a o y.length) out
/-- The sum of the products of the pairs of blades that a function takes. -/
def prodL (p : Int) (sq : List Int) (takes : Nat → Nat → Bool) (x y : List Int) : List Int := addRows p sq takes x y (List.replicate x.length 0) x.length

theorem addRow_succ (p : Int) (sq : List Int) (takes : Nat → Nat → Bool) (x y : List Int) (a : Nat) (out : List Int) (k : Nat) :
    addRow p sq takes x y a out (k + 1) = addPair p sq takes x y a (addRow p sq takes x y a out k) k := by
  simp [addRow, List.range_succ]
theorem addRows_succ (p : Int) (sq : List Int) (takes : Nat → Nat → Bool) (x y : List Int) (out : List Int) (k : Nat) :
    addRows p sq takes x y out (k + 1) = addRow p sq takes x y k (addRows p sq takes x y out k) y.length := by
  simp [addRows, List.range_succ]

/-- All elements are numbers. -/
def NumsL (p : Int) (xs : List Int) : Prop := ∀ x ∈ xs, 0 ≤ x ∧ x < p
theorem NumsL.getD {p : Int} {xs : List Int} (h : NumsL p xs) (hp : 0 < p) (i : Nat) : 0 ≤ xs.getD i 0 ∧ xs.getD i 0 < p := by
  by_cases hi : i < xs.length
  · rw [List.getD_eq_getElem?_getD, List.getElem?_eq_getElem hi]; exact h _ (List.getElem_mem hi)
  · rw [List.getD_eq_getElem?_getD, List.getElem?_eq_none (by omega)]; exact ⟨Int.le_refl _, hp⟩
theorem NumsL.set {p : Int} {xs : List Int} (h : NumsL p xs) (i : Nat) {v : Int} (hv : 0 ≤ v ∧ v < p) : NumsL p (xs.set i v) := fun x hx => by
  rcases List.mem_or_eq_of_mem_set hx with h1 | h1
  · exact h x h1
  · exact h1 ▸ hv
theorem NumsL.replicate {p : Int} (hp : 0 < p) (n : Nat) : NumsL p (List.replicate n 0) := fun x hx => by
  rw [(List.mem_replicate.1 hx).2]; exact ⟨Int.le_refl _, hp⟩
theorem addPair_len (p : Int) (sq : List Int) (takes : Nat → Nat → Bool) (x y : List Int) (a : Nat) (out : List Int) (b : Nat) : (addPair p sq takes x y a out b).length = out.length := by
  unfold addPair; split <;> simp
theorem addRow_len (p : Int) (sq : List Int) (takes : Nat → Nat → Bool) (x y : List Int) (a : Nat) (out : List Int) (k : Nat) : (addRow p sq takes x y a out k).length = out.length := by
  induction k with
  | zero => simp [addRow]
  | succ k ih => rw [addRow_succ, addPair_len, ih]
theorem addRows_len (p : Int) (sq : List Int) (takes : Nat → Nat → Bool) (x y : List Int) (out : List Int) (k : Nat) : (addRows p sq takes x y out k).length = out.length := by
  induction k with
  | zero => simp [addRows]
  | succ k ih => rw [addRows_succ, addRow_len, ih]
theorem prodL_len (p : Int) (sq : List Int) (takes : Nat → Nat → Bool) (x y : List Int) : (prodL p sq takes x y).length = x.length := by
  unfold prodL; rw [addRows_len]; simp
theorem addPair_nums {p : Int} (sq : List Int) (takes : Nat → Nat → Bool) (x y : List Int) (a : Nat) {out : List Int} (b : Nat) (hp : 0 < p) (h : NumsL p out) : NumsL p (addPair p sq takes x y a out b) := by
  unfold addPair
  split
  · exact h.set _ ⟨Int.emod_nonneg _ (by omega), Int.emod_lt_of_pos _ hp⟩
  · exact h
theorem addRow_nums {p : Int} (sq : List Int) (takes : Nat → Nat → Bool) (x y : List Int) (a : Nat) {out : List Int} (k : Nat) (hp : 0 < p) (h : NumsL p out) : NumsL p (addRow p sq takes x y a out k) := by
  induction k with
  | zero => simpa [addRow] using h
  | succ k ih => rw [addRow_succ]; exact addPair_nums sq takes x y a k hp ih
theorem addRows_nums {p : Int} (sq : List Int) (takes : Nat → Nat → Bool) (x y : List Int) {out : List Int} (k : Nat) (hp : 0 < p) (h : NumsL p out) : NumsL p (addRows p sq takes x y out k) := by
  induction k with
  | zero => simpa [addRows] using h
  | succ k ih => rw [addRows_succ]; exact addRow_nums sq takes x y k _ hp ih
theorem prodL_nums {p : Int} (sq : List Int) (takes : Nat → Nat → Bool) (x y : List Int) (hp : 0 < p) : NumsL p (prodL p sq takes x y) := addRows_nums sq takes x y _ hp (NumsL.replicate hp _)

/-- A row a whose number is 0 adds nothing. -/
theorem addRow_zero (p : Int) (sq : List Int) (takes : Nat → Nat → Bool) (x y : List Int) (a : Nat) (out : List Int) (k : Nat) (h : x.getD a 0 = 0) : addRow p sq takes x y a out k = out := by
  induction k with
  | zero => simp [addRow]
  | succ k ih => rw [addRow_succ, ih]; unfold addPair; rw [if_neg (fun hh => hh.1 h)]

end Go.Proofs.YtommppijnccomaaGreat

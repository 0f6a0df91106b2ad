/-
  Plain mathematics: the reduced basis has a first 1 in each row, at rising places, above and below which are noughts; kernels. No program in sight.
-/
import Derived.Test.YtommppijnccomaaGreatLin
import Derived.Test.YtommppijnccomaaGreatF2
namespace Go.Proofs.YtommppijnccomaaGreat

/-- m after k columns with d rows done; c: the places of the firsts. -/
structure Ech (m : List (List Int)) (k d : Nat) (c : Nat → Nat) : Prop where
  lt : ∀ i, i < d → c i < k
  mono : ∀ i j, i < j → j < d → c i < c j
  one : ∀ i, i < d → ent m i (c i) = 1
  zero : ∀ i, i < d → ∀ r, r < m.length → r ≠ i → ent m r (c i) = 0
  before : ∀ i, i < d → ∀ q, q < c i → ent m i q = 0
  rest : ∀ r, d ≤ r → r < m.length → ∀ q, q < k → ent m r q = 0

theorem ent_getD (m : List (List Int)) (i k : Nat) : ent m i k = (m.getD i []).getD k 0 := rfl
theorem ent_set {m : List (List Int)} {d : Nat} {x : List Int} (hd : d < m.length) (r q : Nat) : ent (m.set d x) r q = if r = d then x.getD q 0 else ent m r q := by
  unfold ent
  rw [getD_set]
  by_cases h : r = d
  · rw [if_pos ⟨h.symm, hd⟩, if_pos h]
  · rw [if_neg (fun hh => h hh.1.symm), if_neg h]
theorem ent_swap {m : List (List Int)} {i j : Nat} (hi : i < m.length) (hj : j < m.length) (r q : Nat) : ent (swapL m i j) r q = if r = j then ent m i q else if r = i then ent m j q else ent m r q := by
  unfold swapL
  rw [ent_set (by rw [List.length_set]; exact hj)]
  split
  · rfl
  · rw [ent_set hi]
    split
    · rfl
    · rfl
theorem ent_scaled {p : Int} {m : List (List Int)} {k d v : Nat} (hv : pivOf m k d = v) (hd : d < m.length) (hvl : v < m.length) {n : Nat} (hT : Tab p n m) (r q : Nat) (hq : q < n) :
    ent (scaledAt p m k d) r q = if r = d then ent m v q * invF p (ent m v k) % p else if r = v then ent m d q else ent m r q := by
  unfold scaledAt
  rw [hv, ent_set (by rw [swapL_len]; exact hd)]
  by_cases h : r = d
  · rw [if_pos h, if_pos h, scaleL_getD _ (by rw [(hT.row hvl).1]; exact hq)]; rfl
  · rw [if_neg h, if_neg h, ent_swap hd hvl]
    by_cases h2 : r = v
    · rw [if_pos h2, if_pos h2]
    · rw [if_neg h2, if_neg h2, if_neg h]
theorem ent_cleared {p : Int} {n : Nat} {m : List (List Int)} (hT : Tab p n m) (d k r q : Nat) (hr : r < m.length) (hq : q < n) :
    ent (clearTo p m d k m.length) r q = if r = d then ent m d q else (ent m r q + -(ent m r k) * ent m d q) % p := by
  show ((clearTo p m d k m.length).getD r []).getD q 0 = _
  rw [clearTo_getD hr]
  by_cases h : r = d
  · rw [if_neg (fun hh => hh.2 h), if_pos h, h]; rfl
  · rw [if_pos ⟨hr, h⟩, if_neg h, plusL_getD _ _ (by rw [(hT.row hr).1]; exact hq)]; rfl

theorem Ech.step {p : Int} (hP : isP p = true) {n : Nat} {s : List (List Int) × Nat} {k : Nat} {c : Nat → Nat} (hT : Tab p n s.1) (hd : s.2 ≤ s.1.length) (hk : k < n) (h : Ech s.1 k s.2 c) : ∃ c', Ech (stepB p k s).1 (k + 1) (stepB p k s).2 c' := by
  obtain ⟨m, d⟩ := s
  simp only at hT hd h
  obtain ⟨hb1, hb2⟩ := pivOf_bound m k d hd
  have hp : 2 ≤ p := by have := isP_ge hP; omega
  unfold stepB
  simp only
  by_cases hv : pivOf m k d = m.length
  · rw [if_pos hv]
    refine ⟨c, fun i hi => by have := h.lt i hi; omega, h.mono, h.one, h.zero, h.before, fun r h1 h2 q hq => ?_⟩
    by_cases hqk : q = k
    · subst hqk
      have h2' : r < m.length := h2
      exact piv_before m q (m.length - d) d r h1 (by show r < pivOf m q d; omega)
    · exact h.rest r h1 h2 q (by omega)
  · rw [if_neg hv]
    obtain ⟨v, hvv⟩ : ∃ v, v = pivOf m k d := ⟨_, rfl⟩
    rw [← hvv] at hb1 hb2 hv
    have hvl : v < m.length := by omega
    have hdl : d < m.length := by omega
    have hne : ent m v k ≠ 0 := by rw [hvv]; exact piv_at m k (m.length - d) d (by show pivOf m k d < _; omega)
    have hrange := hT.ent (by omega) v k
    obtain ⟨i1, i2, i3⟩ := inv_spec hP (show 0 < ent m v k by omega) hrange.2
    have hone : ent m v k * invF p (ent m v k) % p = 1 := (i3 _ (by omega) i2).2 rfl
    have hT1 : Tab p n (scaledAt p m k d) := scaledAt_tab (by omega) hT hdl (by omega)
    have hl1 : (scaledAt p m k d).length = m.length := scaledAt_len p m k d
    have e1 := fun r q (hq : q < n) => ent_scaled (p := p) (m := m) (k := k) (d := d) hvv.symm hdl hvl hT r q hq
    have e2 := fun r q (hr : r < m.length) (hq : q < n) => ent_cleared (p := p) hT1 d k r q (by rw [hl1]; exact hr) hq
    rw [hl1] at e2
    have c1 : ∀ i, i < d → c i < n := fun i hi => by have := h.lt i hi; omega
    have z1 : ∀ q, q < k → ent (scaledAt p m k d) d q = 0 := fun q hq => by
      rw [e1 d q (by omega), if_pos rfl, h.rest v hb1 hvl q hq]; simp
    have o1 : ent (scaledAt p m k d) d k = 1 := by rw [e1 d k hk, if_pos rfl, hone]
    refine ⟨fun i => if i = d then k else c i, ?_, ?_, ?_, ?_, ?_, ?_⟩
    · intro i hi
      show (if i = d then k else c i) < k + 1
      split
      · omega
      · have := h.lt i (by omega); omega
    · intro i j hij hj
      show (if i = d then k else c i) < (if j = d then k else c j)
      rw [if_neg (show i ≠ d by omega)]
      split
      · exact h.lt i (by omega)
      · exact h.mono i j hij (by omega)
    · intro i hi
      show ent _ i (if i = d then k else c i) = 1
      by_cases hid : i = d
      · rw [if_pos hid, e2 i k (by omega) hk, if_pos hid, o1]
      · have hi' : i < d := by omega
        rw [if_neg hid, e2 i _ (by omega) (c1 i hi'), if_neg hid, z1 _ (h.lt i hi'), e1 i _ (c1 i hi'), if_neg hid, if_neg (show i ≠ v by omega), h.one i hi', Int.mul_zero]
        exact Int.emod_eq_of_lt (by omega) (by omega)
    · intro i hi r hr hri
      rw [clearTo_len, hl1] at hr
      show ent _ r (if i = d then k else c i) = 0
      by_cases hid : i = d
      · rw [if_pos hid, e2 r k hr hk, if_neg (fun e => hri (e.trans hid.symm)), o1, Int.mul_one]
        rw [Int.add_right_neg]; simp
      · have hi' : i < d := by omega
        rw [if_neg hid, e2 r _ hr (c1 i hi')]
        by_cases hrd : r = d
        · rw [if_pos hrd]; exact z1 _ (h.lt i hi')
        · rw [if_neg hrd, z1 _ (h.lt i hi'), e1 r _ (c1 i hi'), if_neg hrd]
          by_cases hrv : r = v
          · rw [if_pos hrv, h.zero i hi' d hdl (by omega)]; simp
          · rw [if_neg hrv, h.zero i hi' r hr hri]; simp
    · intro i hi q hq
      by_cases hid : i = d
      · have hq' : q < k := by simpa [hid] using hq
        rw [e2 i q (by omega) (by omega), if_pos hid]
        exact z1 q hq'
      · have hq' : q < c i := by simpa [hid] using hq
        have hi' : i < d := by omega
        have := h.lt i hi'
        rw [e2 i q (by omega) (by omega), if_neg hid, z1 q (by omega), e1 i q (by omega), if_neg hid, if_neg (show i ≠ v by omega), h.before i hi' q hq']
        simp
    · intro r h1 h2 q hq
      rw [clearTo_len, hl1] at h2
      rw [e2 r q h2 (by omega), if_neg (show r ≠ d by simp only at h1; omega)]
      by_cases hqk : q = k
      · subst hqk
        rw [o1, Int.mul_one, Int.add_right_neg]; simp
      · have hq' : q < k := by omega
        have h1' : d + 1 ≤ r := h1
        rw [z1 q hq', e1 r q (by omega), if_neg (show r ≠ d by omega)]
        by_cases hrv : r = v
        · rw [if_pos hrv, h.rest d (Nat.le_refl _) hdl q hq']; simp
        · rw [if_neg hrv, h.rest r (by omega) h2 q hq']; simp
theorem Ech.start (m : List (List Int)) (c : Nat → Nat) : Ech m 0 0 c := ⟨fun i hi => absurd hi (by omega), fun i j _ hj => absurd hj (by omega), fun i hi => absurd hi (by omega), fun i hi => absurd hi (by omega), fun i hi => absurd hi (by omega), fun _ _ _ q hq => absurd hq (by omega)⟩
theorem basisTo_ech {p : Int} (hP : isP p = true) {n : Nat} (m : List (List Int)) (hT : Tab p n m) (k : Nat) (hk : k ≤ n) : ∃ c, Ech (basisTo p m k).1 k (basisTo p m k).2 c := by
  have hp : 2 ≤ p := by have := isP_ge hP; omega
  induction k with
  | zero => exact ⟨fun _ => 0, Ech.start _ _⟩
  | succ k ih =>
    obtain ⟨c, hc⟩ := ih (by omega)
    obtain ⟨h1, h2, h3⟩ := basisTo_inv (by omega) m hT k
    exact hc.step hP h1 (by omega) (by omega)

/-- The place of the first number of row i. -/
def ld (B : List (List Int)) (i : Nat) : Nat := leadL (B.getD i [])
/-- A reduced basis of lists of n numbers. -/
structure Red (n : Nat) (B : List (List Int)) : Prop where
  lt : ∀ i, i < B.length → ld B i < n
  one : ∀ i, i < B.length → ent B i (ld B i) = 1
  zero : ∀ i r, i < B.length → r < B.length → r ≠ i → ent B r (ld B i) = 0
  mono : ∀ i j, i < j → j < B.length → ld B i < ld B j
theorem Red.before {n : Nat} {B : List (List Int)} (_h : Red n B) (i q : Nat) (hq : q < ld B i) : ent B i q = 0 := leadL_before _ q hq
theorem Red.inj {n : Nat} {B : List (List Int)} (h : Red n B) {i j : Nat} (hi : i < B.length) (hj : j < B.length) (e : ld B i = ld B j) : i = j := by
  rcases Nat.lt_trichotomy i j with hl | hl | hl
  · have := h.mono i j hl hj; omega
  · exact hl
  · have := h.mono j i hl hi; omega
theorem Red.nil (n : Nat) : Red n [] := ⟨fun i hi => absurd hi (by simp), fun i hi => absurd hi (by simp), fun i r hi => absurd hi (by simp), fun i j _ hj => absurd hj (by simp)⟩
theorem Red.len {n : Nat} {B : List (List Int)} (h : Red n B) : B.length ≤ n := by
  have hle : ∀ j, j < B.length → j ≤ ld B j := by
    intro j
    induction j with
    | zero => intro _; omega
    | succ j ih =>
      intro hj
      have h1 := ih (by omega)
      have h2 := h.mono j (j + 1) (by omega) hj
      omega
  by_cases h0 : B.length = 0
  · omega
  · have h1 := hle (B.length - 1) (by omega)
    have h2 := h.lt (B.length - 1) (by omega)
    omega
theorem row0_len {p : Int} {n : Nat} {m : List (List Int)} (hT : Tab p n m) (h0 : 0 < m.length) : (m.getD 0 []).length = n := (hT.row h0).1
theorem basisL_nil (p : Int) : basisL p [] = [] := by unfold basisL; simp [basisTo]
theorem basisL_red {p : Int} (hP : isP p = true) {n : Nat} (m : List (List Int)) (hT : Tab p n m) : Red n (basisL p m) := by
  have hp : 2 ≤ p := by have := isP_ge hP; omega
  by_cases h0 : 0 < m.length
  · have hl := row0_len hT h0
    obtain ⟨c, hc⟩ := basisTo_ech hP m hT n (Nat.le_refl _)
    obtain ⟨h1, h2, h3⟩ := basisTo_inv (p := p) (by omega) m hT n
    have hlen := (basisL_len (p := p) (by omega) m hT).1
    rw [hl] at hlen
    have hg : ∀ i, i < (basisL p m).length → (basisL p m).getD i [] = (basisTo p m n).1.getD i [] := fun i hi => by
      have hi2 : i < (basisTo p m n).1.length := by omega
      have e : basisL p m = (basisTo p m n).1.take (basisTo p m n).2 := by unfold basisL; rw [hl]
      rw [getD_of_lt [] hi, getD_of_lt [] hi2]
      simp only [e, List.getElem_take]
    have he : ∀ i q, i < (basisL p m).length → ent (basisL p m) i q = ent (basisTo p m n).1 i q := fun i q hi => by unfold ent; rw [hg i hi]
    have hld : ∀ i, i < (basisL p m).length → ld (basisL p m) i = c i := fun i hi => by
      have hi' : i < (basisTo p m n).2 := by omega
      have hr := (h1.row (show i < (basisTo p m n).1.length by omega)).1
      unfold ld
      rw [hg i hi]
      refine leadL_eq _ _ (fun j hj => hc.before i hi' j hj) (.inr ⟨by rw [hr]; exact hc.lt i hi', ?_⟩)
      have := hc.one i hi'
      unfold ent at this
      rw [this]; omega
    refine ⟨fun i hi => ?_, fun i hi => ?_, fun i r hi hr hri => ?_, fun i j hij hj => ?_⟩
    · rw [hld i hi]; exact hc.lt i (by omega)
    · rw [hld i hi, he i _ hi]; exact hc.one i (by omega)
    · rw [hld i hi, he r _ hr]; exact hc.zero i (by omega) r (by omega) hri
    · rw [hld i (by omega), hld j hj]; exact hc.mono i j hij (by omega)
  · obtain rfl : m = [] := List.eq_nil_of_length_eq_zero (by omega)
    rw [basisL_nil]
    exact Red.nil n

/-- The row that has its first number at place k. -/
def ldIdx (B : List (List Int)) (k : Nat) : Option Nat := (List.range B.length).find? fun i => ld B i == k
def isLd (B : List (List Int)) (k : Nat) : Bool := (List.range B.length).any fun i => ld B i == k
theorem ldIdx_some {n : Nat} {B : List (List Int)} (h : Red n B) {i : Nat} (hi : i < B.length) : ldIdx B (ld B i) = some i := by
  unfold ldIdx
  cases e : (List.range B.length).find? fun j => ld B j == ld B i with
  | none =>
    have := List.find?_eq_none.1 e i (by simpa using hi)
    simp at this
  | some j =>
    have h1 := List.find?_some e
    have h2 := List.mem_of_find?_eq_some e
    have hji : j = i := h.inj (by simpa using h2) hi (by simpa using h1)
    rw [hji]
theorem ldIdx_none {B : List (List Int)} {k : Nat} (h : isLd B k = false) : ldIdx B k = none := by
  unfold ldIdx
  rw [List.find?_eq_none]
  intro i hi
  have := List.any_eq_false.1 h i hi
  exact this
theorem isLd_iff {B : List (List Int)} {k : Nat} : isLd B k = true ↔ ∃ i, i < B.length ∧ ld B i = k := by
  unfold isLd
  rw [List.any_eq_true]
  constructor
  · rintro ⟨i, hi, e⟩; exact ⟨i, by simpa using hi, by simpa using e⟩
  · rintro ⟨i, hi, e⟩; exact ⟨i, by simpa using hi, by simpa using e⟩
/-- The vector of the kernel that is 1 at the free place f: what is not left over is set. -/
def freePart (p : Int) (B : List (List Int)) (n f : Nat) (left : Nat → Bool) : List Int :=
  tab n fun k => if k = f then 1 else if left k then 0 else match ldIdx B k with | some i => (-(ent B i f)) % p | none => 0
def freeRow (p : Int) (B : List (List Int)) (n f : Nat) : List Int := freePart p B n f fun _ => false
theorem freePart_len (p : Int) (B : List (List Int)) (n f : Nat) (left : Nat → Bool) : (freePart p B n f left).length = n := tab_len _ _
theorem freePart_nums {p : Int} (hp : 2 ≤ p) (B : List (List Int)) (n f : Nat) (left : Nat → Bool) : NumsL p (freePart p B n f left) := NumsL.tab fun i _ => by
  split
  · omega
  · split
    · omega
    · split
      · exact ⟨Int.emod_nonneg _ (by omega), Int.emod_lt_of_pos _ (by omega)⟩
      · omega
theorem freePart_start (p : Int) (B : List (List Int)) (n f : Nat) (_hf : f < n) (left : Nat → Bool) (h : ∀ k, k < n → isLd B k = true → left k = true) : freePart p B n f left = unitRow n f := by
  apply list_ext_getD 0 (by rw [freePart_len, unitRow_len])
  intro k hk
  rw [freePart_len] at hk
  unfold freePart unitRow
  rw [tab_getD hk, getD_set, List.length_replicate]
  by_cases hkf : k = f
  · subst hkf
    rw [if_pos rfl, if_pos ⟨rfl, hk⟩]
  · have hkf' : ¬ (f = k ∧ f < n) := fun hh => hkf hh.1.symm
    rw [if_neg hkf, if_neg hkf']
    have hz : (List.replicate n (0 : Int)).getD k 0 = 0 := by rw [getD_of_lt 0 (by simpa using hk)]; simp
    rw [hz]
    cases hl : left k with
    | true => rfl
    | false =>
      have hn : isLd B k = false := by
        cases hh : isLd B k with
        | false => rfl
        | true => rw [h k hk hh] at hl; cases hl
      rw [ldIdx_none hn]; rfl
theorem freePart_step {p : Int} {n : Nat} {B : List (List Int)} (h : Red n B) {f i : Nat} (hi : i < B.length) (hf : isLd B f = false) (left : Nat → Bool) :
    (freePart p B n f left).set (ld B i) ((-(ent B i f)) % p) = freePart p B n f fun k => left k && !(k == ld B i) := by
  apply list_ext_getD 0 (by rw [List.length_set, freePart_len, freePart_len])
  intro k hk
  rw [List.length_set, freePart_len] at hk
  rw [getD_set, freePart_len]
  unfold freePart
  rw [tab_getD hk, tab_getD hk]
  by_cases hki : ld B i = k
  · subst hki
    have hne : ld B i ≠ f := fun e => by
      have := isLd_iff.2 ⟨i, hi, e⟩
      rw [hf] at this; cases this
    rw [if_pos ⟨rfl, hk⟩, if_neg hne]
    simp [ldIdx_some h hi]
  · rw [if_neg (fun hh => hki hh.1)]
    by_cases hkf : k = f
    · rw [if_pos hkf, if_pos hkf]
    · rw [if_neg hkf, if_neg hkf]
      have : (k == ld B i) = false := by simp; exact fun e => hki e.symm
      simp only [this, Bool.not_false, Bool.and_true]
theorem freePart_congr (p : Int) (B : List (List Int)) (n f : Nat) {left left' : Nat → Bool} (h : ∀ k, k < n → left k = left' k) : freePart p B n f left = freePart p B n f left' := by
  refine tab_congr fun k hk => ?_
  rw [h k hk]
/-- The vectors of the kernel for the first k places. -/
def freeTo (p : Int) (B : List (List Int)) (n k : Nat) : List (List Int) := ((List.range k).filter fun f => !isLd B f).map (freeRow p B n)
theorem freeTo_zero (p : Int) (B : List (List Int)) (n : Nat) : freeTo p B n 0 = [] := rfl
theorem freeTo_skip {p : Int} {B : List (List Int)} {n k : Nat} (h : isLd B k = true) : freeTo p B n (k + 1) = freeTo p B n k := by
  unfold freeTo; rw [List.range_succ, List.filter_append]; simp [h]
theorem freeTo_take {p : Int} {B : List (List Int)} {n k : Nat} (h : isLd B k = false) : freeTo p B n (k + 1) = freeTo p B n k ++ [freeRow p B n k] := by
  unfold freeTo; rw [List.range_succ, List.filter_append]; simp [h]
theorem freeTo_len (p : Int) (B : List (List Int)) (n k : Nat) : (freeTo p B n k).length ≤ k := by
  unfold freeTo
  rw [List.length_map]
  have := List.length_filter_le (fun f => !isLd B f) (List.range k)
  simpa using this
theorem freeTo_tab {p : Int} (hp : 2 ≤ p) (B : List (List Int)) (n k : Nat) : Tab p n (freeTo p B n k) := fun y hy => by
  obtain ⟨f, _, rfl⟩ := List.mem_map.1 hy
  exact ⟨freePart_len _ _ _ _ _, freePart_nums hp _ _ _ _⟩
/-- The reduced basis of the kernel of rows of n numbers. -/
def kernL (p : Int) (m : List (List Int)) (n : Nat) : List (List Int) := basisL p (freeTo p (basisL p m) n n)
theorem kernL_tab {p : Int} (hp : 2 ≤ p) (m : List (List Int)) (n : Nat) : Tab p n (kernL p m n) := basisL_tab (by omega) _ (freeTo_tab hp _ n n)
theorem kernL_red {p : Int} (hP : isP p = true) (m : List (List Int)) (n : Nat) : Red n (kernL p m n) := basisL_red hP _ (freeTo_tab (by have := isP_ge hP; omega) _ n n)
theorem kernL_len {p : Int} (hP : isP p = true) (m : List (List Int)) (n : Nat) : (kernL p m n).length ≤ n := (kernL_red hP m n).len

end Go.Proofs.YtommppijnccomaaGreat

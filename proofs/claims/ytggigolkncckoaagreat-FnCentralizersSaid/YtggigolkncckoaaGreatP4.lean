/-
  LawFnCentralizers: part 4 of the texts that the proof needs. No condition.
-/
import Derived.Test.YtggigolkncckoaaGreatP3
namespace Go.Proofs.YtggigolkncckoaaGreat
/-- m after k columns with d rows done; c: the places of the firsts. -/
structure Ech (m : List (List Int)) (k d : Nat) (c : Nat → Nat) : Prop where
  lt : ∀ i, i < d → c i < k
  mono : ∀ i j, i < j → j < d → c i < c j
  one : ∀ i, i < d → ent m i (c i) = 1
  zero : ∀ i, i < d → ∀ r, r < m.length → r ≠ i → ent m r (c i) = 0
  before : ∀ i, i < d → ∀ q, q < c i → ent m i q = 0
  rest : ∀ r, d ≤ r → r < m.length → ∀ q, q < k → ent m r q = 0
theorem ent_getD (m : List (List Int)) (i k : Nat) : ent m i k = (m.getD i []).getD k 0 := rfl
theorem ent_set {m : List (List Int)} {d : Nat} {x : List Int} (hd : d < m.length) (r q : Nat) : ent (m.set d x) r q = if r = d then x.getD q 0 else ent m r q := by
  unfold ent
  rw [getD_set]
  by_cases h : r = d
  · rw [if_pos ⟨h.symm, hd⟩, if_pos h]
  · rw [if_neg (fun hh => h hh.1.symm), if_neg h]
theorem ent_swap {m : List (List Int)} {i j : Nat} (hi : i < m.length) (hj : j < m.length) (r q : Nat) : ent (swapL m i j) r q = if r = j then ent m i q else if r = i then ent m j q else ent m r q := by
  unfold swapL
  rw [ent_set (by rw [List.length_set]; exact hj)]
  split
  · rfl
  · rw [ent_set hi]
    split
    · rfl
    · rfl
theorem ent_scaled {p : Int} {m : List (List Int)} {k d v : Nat} (hv : pivOf m k d = v) (hd : d < m.length) (hvl : v < m.length) {n : Nat} (hT : Tab p n m) (r q : Nat) (hq : q < n) :
    ent (scaledAt p m k d) r q = if r = d then ent m v q * invF p (ent m v k) % p else if r = v then ent m d q else ent m r q := by
  unfold scaledAt
  rw [hv, ent_set (by rw [swapL_len]; exact hd)]
  by_cases h : r = d
  · rw [if_pos h, if_pos h, scaleL_getD _ (by rw [(hT.row hvl).1]; exact hq)]; rfl
  · rw [if_neg h, if_neg h, ent_swap hd hvl]
    by_cases h2 : r = v
    · rw [if_pos h2, if_pos h2]
    · rw [if_neg h2, if_neg h2, if_neg h]
theorem ent_cleared {p : Int} {n : Nat} {m : List (List Int)} (hT : Tab p n m) (d k r q : Nat) (hr : r < m.length) (hq : q < n) :
    ent (clearTo p m d k m.length) r q = if r = d then ent m d q else (ent m r q + -(ent m r k) * ent m d q) % p := by
  show ((clearTo p m d k m.length).getD r []).getD q 0 = _
  rw [clearTo_getD hr]
  by_cases h : r = d
  · rw [if_neg (fun hh => hh.2 h), if_pos h, h]; rfl
  · rw [if_pos ⟨hr, h⟩, if_neg h, plusL_getD _ _ (by rw [(hT.row hr).1]; exact hq)]; rfl
theorem Ech.step {p : Int} (hP : isP p = true) {n : Nat} {s : List (List Int) × Nat} {k : Nat} {c : Nat → Nat} (hT : Tab p n s.1) (hd : s.2 ≤ s.1.length) (hk : k < n) (h : Ech s.1 k s.2 c) : ∃ c', Ech (stepB p k s).1 (k + 1) (stepB p k s).2 c' := by
  obtain ⟨m, d⟩ := s
  simp only at hT hd h
  obtain ⟨hb1, hb2⟩ := pivOf_bound m k d hd
  have hp : 2 ≤ p := by have := isP_ge hP; omega
  unfold stepB
  simp only
  by_cases hv : pivOf m k d = m.length
  · rw [if_pos hv]
    refine ⟨c, fun i hi => by have := h.lt i hi; omega, h.mono, h.one, h.zero, h.before, fun r h1 h2 q hq => ?_⟩
    by_cases hqk : q = k
    · subst hqk
      have h2' : r < m.length := h2
      exact piv_before m q (m.length - d) d r h1 (by show r < pivOf m q d; omega)
    · exact h.rest r h1 h2 q (by omega)
  · rw [if_neg hv]
    obtain ⟨v, hvv⟩ : ∃ v, v = pivOf m k d := ⟨_, rfl⟩
    rw [← hvv] at hb1 hb2 hv
    have hvl : v < m.length := by omega
    have hdl : d < m.length := by omega
    have hne : ent m v k ≠ 0 := by rw [hvv]; exact piv_at m k (m.length - d) d (by show pivOf m k d < _; omega)
    have hrange := hT.ent (by omega) v k
    obtain ⟨i1, i2, i3⟩ := inv_spec hP (show 0 < ent m v k by omega) hrange.2
    have hone : ent m v k * invF p (ent m v k) % p = 1 := (i3 _ (by omega) i2).2 rfl
    have hT1 : Tab p n (scaledAt p m k d) := scaledAt_tab (by omega) hT hdl (by omega)
    have hl1 : (scaledAt p m k d).length = m.length := scaledAt_len p m k d
    have e1 := fun r q (hq : q < n) => ent_scaled (p := p) (m := m) (k := k) (d := d) hvv.symm hdl hvl hT r q hq
    have e2 := fun r q (hr : r < m.length) (hq : q < n) => ent_cleared (p := p) hT1 d k r q (by rw [hl1]; exact hr) hq
    rw [hl1] at e2
    have c1 : ∀ i, i < d → c i < n := fun i hi => by have := h.lt i hi; omega
    have z1 : ∀ q, q < k → ent (scaledAt p m k d) d q = 0 := fun q hq => by
      rw [e1 d q (by omega), if_pos rfl, h.rest v hb1 hvl q hq]; simp
    have o1 : ent (scaledAt p m k d) d k = 1 := by rw [e1 d k hk, if_pos rfl, hone]
    refine ⟨fun i => if i = d then k else c i, ?_, ?_, ?_, ?_, ?_, ?_⟩
    · intro i hi
      show (if i = d then k else c i) < k + 1
      split
      · omega
      · have := h.lt i (by omega); omega
    · intro i j hij hj
      show (if i = d then k else c i) < (if j = d then k else c j)
      rw [if_neg (show i ≠ d by omega)]
      split
      · exact h.lt i (by omega)
      · exact h.mono i j hij (by omega)
    · intro i hi
      show ent _ i (if i = d then k else c i) = 1
      by_cases hid : i = d
      · rw [if_pos hid, e2 i k (by omega) hk, if_pos hid, o1]
      · have hi' : i < d := by omega
        rw [if_neg hid, e2 i _ (by omega) (c1 i hi'), if_neg hid, z1 _ (h.lt i hi'), e1 i _ (c1 i hi'), if_neg hid, if_neg (show i ≠ v by omega), h.one i hi', Int.mul_zero]
        exact Int.emod_eq_of_lt (by omega) (by omega)
    · intro i hi r hr hri
      rw [clearTo_len, hl1] at hr
      show ent _ r (if i = d then k else c i) = 0
      by_cases hid : i = d
      · rw [if_pos hid, e2 r k hr hk, if_neg (fun e => hri (e.trans hid.symm)), o1, Int.mul_one]
        rw [Int.add_right_neg]; simp
      · have hi' : i < d := by omega
        rw [if_neg hid, e2 r _ hr (c1 i hi')]
        by_cases hrd : r = d
        · rw [if_pos hrd]; exact z1 _ (h.lt i hi')
        · rw [if_neg hrd, z1 _ (h.lt i hi'), e1 r _ (c1 i hi'), if_neg hrd]
          by_cases hrv : r = v
          · rw [if_pos hrv, h.zero i hi' d hdl (by omega)]; simp
          · rw [if_neg hrv, h.zero i hi' r hr hri]; simp
    · intro i hi q hq
      by_cases hid : i = d
      · have hq' : q < k := by simpa [hid] using hq
        rw [e2 i q (by omega) (by omega), if_pos hid]
        exact z1 q hq'
      · have hq' : q < c i := by simpa [hid] using hq
        have hi' : i < d := by omega
        have := h.lt i hi'
        rw [e2 i q (by omega) (by omega), if_neg hid, z1 q (by omega), e1 i q (by omega), if_neg hid, if_neg (show i ≠ v by omega), h.before i hi' q hq']
        simp
    · intro r h1 h2 q hq
      rw [clearTo_len, hl1] at h2
      rw [e2 r q h2 (by omega), if_neg (show r ≠ d by simp only at h1; omega)]
      by_cases hqk : q = k
      · subst hqk
        rw [o1, Int.mul_one, Int.add_right_neg]; simp
      · have hq' : q < k := by omega
        have h1' : d + 1 ≤ r := h1
        rw [z1 q hq', e1 r q (by omega), if_neg (show r ≠ d by omega)]
        by_cases hrv : r = v
        · rw [if_pos hrv, h.rest d (Nat.le_refl _) hdl q hq']; simp
        · rw [if_neg hrv, h.rest r (by omega) h2 q hq']; simp
theorem Ech.start (m : List (List Int)) (c : Nat → Nat) : Ech m 0 0 c := ⟨fun i hi => absurd hi (by omega), fun i j _ hj => absurd hj (by omega), fun i hi => absurd hi (by omega), fun i hi => absurd hi (by omega), fun i hi => absurd hi (by omega), fun _ _ _ q hq => absurd hq (by omega)⟩
theorem basisTo_ech {p : Int} (hP : isP p = true) {n : Nat} (m : List (List Int)) (hT : Tab p n m) (k : Nat) (hk : k ≤ n) : ∃ c, Ech (basisTo p m k).1 k (basisTo p m k).2 c := by
  have hp : 2 ≤ p := by have := isP_ge hP; omega
  induction k with
  | zero => exact ⟨fun _ => 0, Ech.start _ _⟩
  | succ k ih =>
    obtain ⟨c, hc⟩ := ih (by omega)
    obtain ⟨h1, h2, h3⟩ := basisTo_inv (by omega) m hT k
    exact hc.step hP h1 (by omega) (by omega)
/-- The place of the first number of row i. -/
def ld (B : List (List Int)) (i : Nat) : Nat := leadL (B.getD i [])
/-- A reduced basis of lists of n numbers. -/
structure Red (n : Nat) (B : List (List Int)) : Prop where
  lt : ∀ i, i < B.length → ld B i < n
  one : ∀ i, i < B.length → ent B i (ld B i) = 1
  zero : ∀ i r, i < B.length → r < B.length → r ≠ i → ent B r (ld B i) = 0
  mono : ∀ i j, i < j → j < B.length → ld B i < ld B j
theorem Red.before {n : Nat} {B : List (List Int)} (_h : Red n B) (i q : Nat) (hq : q < ld B i) : ent B i q = 0 := leadL_before _ q hq
theorem Red.inj {n : Nat} {B : List (List Int)} (h : Red n B) {i j : Nat} (hi : i < B.length) (hj : j < B.length) (e : ld B i = ld B j) : i = j := by
  rcases Nat.lt_trichotomy i j with hl | hl | hl
  · have := h.mono i j hl hj; omega
  · exact hl
  · have := h.mono j i hl hi; omega
theorem Red.nil (n : Nat) : Red n [] := ⟨fun i hi => absurd hi (by simp), fun i hi => absurd hi (by simp), fun i r hi => absurd hi (by simp), fun i j _ hj => absurd hj (by simp)⟩
theorem Red.len {n : Nat} {B : List (List Int)} (h : Red n B) : B.length ≤ n := by
  have hle : ∀ j, j < B.length → j ≤ ld B j := by
    intro j
    induction j with
    | zero => intro _; omega
    | succ j ih =>
      intro hj
      have h1 := ih (by omega)
      have h2 := h.mono j (j + 1) (by omega) hj
      omega
  by_cases h0 : B.length = 0
  · omega
  · have h1 := hle (B.length - 1) (by omega)
    have h2 := h.lt (B.length - 1) (by omega)
    omega
theorem row0_len {p : Int} {n : Nat} {m : List (List Int)} (hT : Tab p n m) (h0 : 0 < m.length) : (m.getD 0 []).length = n := (hT.row h0).1
theorem basisL_nil (p : Int) : basisL p [] = [] := by unfold basisL; simp [basisTo]
theorem basisL_red {p : Int} (hP : isP p = true) {n : Nat} (m : List (List Int)) (hT : Tab p n m) : Red n (basisL p m) := by
  have hp : 2 ≤ p := by have := isP_ge hP; omega
  by_cases h0 : 0 < m.length
  · have hl := row0_len hT h0
    obtain ⟨c, hc⟩ := basisTo_ech hP m hT n (Nat.le_refl _)
    obtain ⟨h1, h2, h3⟩ := basisTo_inv (p := p) (by omega) m hT n
    have hlen := (basisL_len (p := p) (by omega) m hT).1
    rw [hl] at hlen
    have hg : ∀ i, i < (basisL p m).length → (basisL p m).getD i [] = (basisTo p m n).1.getD i [] := fun i hi => by
      have hi2 : i < (basisTo p m n).1.length := by omega
      have e : basisL p m = (basisTo p m n).1.take (basisTo p m n).2 := by unfold basisL; rw [hl]
      rw [getD_of_lt [] hi, getD_of_lt [] hi2]
      simp only [e, List.getElem_take]
    have he : ∀ i q, i < (basisL p m).length → ent (basisL p m) i q = ent (basisTo p m n).1 i q := fun i q hi => by unfold ent; rw [hg i hi]
    have hld : ∀ i, i < (basisL p m).length → ld (basisL p m) i = c i := fun i hi => by
      have hi' : i < (basisTo p m n).2 := by omega
      have hr := (h1.row (show i < (basisTo p m n).1.length by omega)).1
      unfold ld
      rw [hg i hi]
      refine leadL_eq _ _ (fun j hj => hc.before i hi' j hj) (.inr ⟨by rw [hr]; exact hc.lt i hi', ?_⟩)
      have := hc.one i hi'
      unfold ent at this
      rw [this]; omega
    refine ⟨fun i hi => ?_, fun i hi => ?_, fun i r hi hr hri => ?_, fun i j hij hj => ?_⟩
    · rw [hld i hi]; exact hc.lt i (by omega)
    · rw [hld i hi, he i _ hi]; exact hc.one i (by omega)
    · rw [hld i hi, he r _ hr]; exact hc.zero i (by omega) r (by omega) hri
    · rw [hld i (by omega), hld j hj]; exact hc.mono i j hij (by omega)
  · obtain rfl : m = [] := List.eq_nil_of_length_eq_zero (by omega)
    rw [basisL_nil]
    exact Red.nil n
/-- The row that has its first number at place k. -/
def ldIdx (B : List (List Int)) (k : Nat) : Option Nat := (List.range B.length).find? fun i => ld B i == k
def isLd (B : List (List Int)) (k : Nat) : Bool := (List.range B.length).any fun i => ld B i == k
theorem ldIdx_some {n : Nat} {B : List (List Int)} (h : Red n B) {i : Nat} (hi : i < B.length) : ldIdx B (ld B i) = some i := by
  unfold ldIdx
  cases e : (List.range B.length).find? fun j => ld B j == ld B i with
  | none =>
    have := List.find?_eq_none.1 e i (by simpa using hi)
    simp at this
  | some j =>
    have h1 := List.find?_some e
    have h2 := List.mem_of_find?_eq_some e
    have hji : j = i := h.inj (by simpa using h2) hi (by simpa using h1)
    rw [hji]
theorem ldIdx_none {B : List (List Int)} {k : Nat} (h : isLd B k = false) : ldIdx B k = none := by
  unfold ldIdx
  rw [List.find?_eq_none]
  intro i hi
  have := List.any_eq_false.1 h i hi
  exact this
theorem isLd_iff {B : List (List Int)} {k : Nat} : isLd B k = true ↔ ∃ i, i < B.length ∧ ld B i = k := by
  unfold isLd
  rw [List.any_eq_true]
  constructor
  · rintro ⟨i, hi, e⟩; exact ⟨i, by simpa using hi, by simpa using e⟩
  · rintro ⟨i, hi, e⟩; exact ⟨i, by simpa using hi, by simpa using e⟩
/-- The vector of the kernel that is 1 at the free place f: what is not left over is set. -/
def freePart (p : Int) (B : List (List Int)) (n f : Nat) (left : Nat → Bool) : List Int :=
  tab n fun k => if k = f then 1 else if left k then 0 else match ldIdx B k with | some i => (-(ent B i f)) % p | none => 0
def freeRow (p : Int) (B : List (List Int)) (n f : Nat) : List Int := freePart p B n f fun _ => false
theorem freePart_len (p : Int) (B : List (List Int)) (n f : Nat) (left : Nat → Bool) : (freePart p B n f left).length = n := tab_len _ _
theorem freePart_nums {p : Int} (hp : 2 ≤ p) (B : List (List Int)) (n f : Nat) (left : Nat → Bool) : NumsL p (freePart p B n f left) := NumsL.tab fun i _ => by
  split
  · omega
  · split
    · omega
    · split
      · exact ⟨Int.emod_nonneg _ (by omega), Int.emod_lt_of_pos _ (by omega)⟩
      · omega
theorem freePart_start (p : Int) (B : List (List Int)) (n f : Nat) (_hf : f < n) (left : Nat → Bool) (h : ∀ k, k < n → isLd B k = true → left k = true) : freePart p B n f left = unitRow n f := by
  apply list_ext_getD 0 (by rw [freePart_len, unitRow_len])
  intro k hk
  rw [freePart_len] at hk
  unfold freePart unitRow
  rw [tab_getD hk, getD_set, List.length_replicate]
  by_cases hkf : k = f
  · subst hkf
    rw [if_pos rfl, if_pos ⟨rfl, hk⟩]
  · have hkf' : ¬ (f = k ∧ f < n) := fun hh => hkf hh.1.symm
    rw [if_neg hkf, if_neg hkf']
    have hz : (List.replicate n (0 : Int)).getD k 0 = 0 := by rw [getD_of_lt 0 (by simpa using hk)]; simp
    rw [hz]
    cases hl : left k with
    | true => rfl
    | false =>
      have hn : isLd B k = false := by
        cases hh : isLd B k with
        | false => rfl
        | true => rw [h k hk hh] at hl; cases hl
      rw [ldIdx_none hn]; rfl
theorem freePart_step {p : Int} {n : Nat} {B : List (List Int)} (h : Red n B) {f i : Nat} (hi : i < B.length) (hf : isLd B f = false) (left : Nat → Bool) :
    (freePart p B n f left).set (ld B i) ((-(ent B i f)) % p) = freePart p B n f fun k => left k && !(k == ld B i) := by
  apply list_ext_getD 0 (by rw [List.length_set, freePart_len, freePart_len])
  intro k hk
  rw [List.length_set, freePart_len] at hk
  rw [getD_set, freePart_len]
  unfold freePart
  rw [tab_getD hk, tab_getD hk]
  by_cases hki : ld B i = k
  · subst hki
    have hne : ld B i ≠ f := fun e => by
      have := isLd_iff.2 ⟨i, hi, e⟩
      rw [hf] at this; cases this
    rw [if_pos ⟨rfl, hk⟩, if_neg hne]
    simp [ldIdx_some h hi]
  · rw [if_neg (fun hh => hki hh.1)]
    by_cases hkf : k = f
    · rw [if_pos hkf, if_pos hkf]
    · rw [if_neg hkf, if_neg hkf]
      have : (k == ld B i) = false := by simp; exact fun e => hki e.symm
      simp only [this, Bool.not_false, Bool.and_true]
theorem freePart_congr (p : Int) (B : List (List Int)) (n f : Nat) {left left' : Nat → Bool} (h : ∀ k, k < n → left k = left' k) : freePart p B n f left = freePart p B n f left' := by
  refine tab_congr fun k hk => ?_
  rw [h k hk]
/-- The vectors of the kernel for the first k places. -/
def freeTo (p : Int) (B : List (List Int)) (n k : Nat) : List (List Int) := ((List.range k).filter fun f => !isLd B f).map (freeRow p B n)
theorem freeTo_skip {p : Int} {B : List (List Int)} {n k : Nat} (h : isLd B k = true) : freeTo p B n (k + 1) = freeTo p B n k := by
  unfold freeTo; rw [List.range_succ, List.filter_append]; simp [h]
theorem freeTo_take {p : Int} {B : List (List Int)} {n k : Nat} (h : isLd B k = false) : freeTo p B n (k + 1) = freeTo p B n k ++ [freeRow p B n k] := by
  unfold freeTo; rw [List.range_succ, List.filter_append]; simp [h]
theorem freeTo_tab {p : Int} (hp : 2 ≤ p) (B : List (List Int)) (n k : Nat) : Tab p n (freeTo p B n k) := fun y hy => by
  obtain ⟨f, _, rfl⟩ := List.mem_map.1 hy
  exact ⟨freePart_len _ _ _ _ _, freePart_nums hp _ _ _ _⟩
/-- The reduced basis of the kernel of rows of n numbers. -/
def kernL (p : Int) (m : List (List Int)) (n : Nat) : List (List Int) := basisL p (freeTo p (basisL p m) n n)
theorem kernL_tab {p : Int} (hp : 2 ≤ p) (m : List (List Int)) (n : Nat) : Tab p n (kernL p m n) := basisL_tab (by omega) _ (freeTo_tab hp _ n n)
theorem kernL_red {p : Int} (hP : isP p = true) (m : List (List Int)) (n : Nat) : Red n (kernL p m n) := basisL_red hP _ (freeTo_tab (by have := isP_ge hP; omega) _ n n)
theorem kernL_len {p : Int} (hP : isP p = true) (m : List (List Int)) (n : Nat) : (kernL p m n).length ≤ n := (kernL_red hP m n).len
end Go.Proofs.YtggigolkncckoaaGreat
namespace Go.Proofs.YtggigolkncckoaaGreat
open Go.RowKit
theorem Nest.setNew {w1 w2 : World} {B : Nat} {rows : List Value} {xss : List (List Int)} {A : Option Addr} {n c : Nat} {xs : List Int} (h : Nest w1 B rows xss) (hr : Mk w1 w2 2 A n c (ints xs)) (hB : B ≤ w1.heap.size) (k : Nat) :
    Nest w2 B (rows.set k (.slice A n c)) (xss.set k xs) := by
  have hn : xs.length = n := by have := hr.2.len; rwa [ints_length] at this
  subst hn
  have hnew : ∀ g, (Value.slice A xs.length c).ownBlock = some g → w1.heap.size ≤ g := fun g hg => (World.ownsRow.lt hr.2 g hg).1
  refine ⟨by simp [h.len], fun j hj => ?_, fun i j g hij hi => ?_⟩
  · have hj' : j < xss.length := by simpa using hj
    by_cases hk : k = j
    · subst hk
      rw [List.getElem_set_self]
      exact ⟨A, c, by rw [List.getElem?_set_self (by rw [h.len]; exact hj')], hr.2.base hB⟩
    · obtain ⟨A', c', e, ho⟩ := h.row j hj'
      rw [List.getElem_set_ne hk]
      exact ⟨A', c', by rw [List.getElem?_set_ne hk]; exact e, ho.below hr.1⟩
  · rw [List.getElem?_set] at hi ⊢
    by_cases hki : k = i
    · subst hki
      rw [if_pos rfl] at hi
      rw [if_neg (by omega)]
      split at hi
      · intro hj
        have h1 := (h.block j g hj).2
        have h2 := hnew g (by simpa using hi)
        omega
      · simp at hi
    · rw [if_neg hki] at hi
      have hgi := (h.block i g hi).2
      by_cases hkj : k = j
      · rw [if_pos hkj]
        split
        · intro hj
          have h2 := hnew g (by simpa using hj)
          omega
        · simp
      · rw [if_neg hkj]
        exact h.apart i j g hij hi
theorem Nest.apart_ne {w : World} {B : Nat} {rows : List Value} {xss : List (List Int)} (h : Nest w B rows xss) (i j g : Nat) (hij : i ≠ j) (hi : (rows[i]?).bind Value.ownBlock = some g) : (rows[j]?).bind Value.ownBlock ≠ some g := by
  rcases Nat.lt_or_gt_of_ne hij with hlt | hgt
  · exact h.apart i j g hlt hi
  · intro hj
    exact h.apart j i g hgt hj hi
/-- The rows in another order. -/
theorem Nest.moved {w : World} {B : Nat} {rows rows' : List Value} {xss xss' : List (List Int)} (h : Nest w B rows xss) (s : Nat → Nat) (hs : ∀ i j, i ≠ j → s i ≠ s j) (hl : rows'.length = xss'.length) (hr : ∀ k, rows'[k]? = rows[s k]?) (hx : ∀ k, xss'[k]? = xss[s k]?) : Nest w B rows' xss' := by
  refine ⟨hl, fun k hk => ?_, fun i j g hij hi => ?_⟩
  · have e := hx k
    rw [List.getElem?_eq_getElem hk] at e
    obtain ⟨hk', e'⟩ := List.getElem?_eq_some_iff.1 e.symm
    obtain ⟨A, c, er, ho⟩ := h.row (s k) hk'
    rw [e'] at er ho
    exact ⟨A, c, by rw [hr k, er], ho⟩
  · rw [hr] at hi ⊢
    exact h.apart_ne _ _ _ (hs i j (by omega)) hi
theorem swapL_get? (m : List (List Int)) {i j : Nat} (hi : i < m.length) (hj : j < m.length) (k : Nat) : (swapL m i j)[k]? = m[if k = j then i else if k = i then j else k]? := by
  unfold swapL
  rw [List.getElem?_set, List.getElem?_set]
  by_cases h1 : j = k
  · subst h1
    rw [if_pos rfl, if_pos rfl, List.length_set, if_pos hj, getD_of_lt [] hi, List.getElem?_eq_getElem hi]
  · have h1' : ¬ k = j := fun e => h1 e.symm
    rw [if_neg h1, if_neg h1']
    by_cases h2 : i = k
    · subst h2
      rw [if_pos rfl, if_pos rfl, if_pos hi, getD_of_lt [] hj, List.getElem?_eq_getElem hj]
    · have h2' : ¬ k = i := fun e => h2 e.symm
      rw [if_neg h2, if_neg h2']
theorem swapV_get? (m : List Value) {i j : Nat} {ri rj : Value} (hi : m[i]? = some ri) (hj : m[j]? = some rj) (k : Nat) : ((m.set i rj).set j ri)[k]? = m[if k = j then i else if k = i then j else k]? := by
  have hil := (List.getElem?_eq_some_iff.1 hi).1
  have hjl := (List.getElem?_eq_some_iff.1 hj).1
  rw [List.getElem?_set, List.getElem?_set]
  by_cases h1 : j = k
  · subst h1
    rw [if_pos rfl, if_pos rfl, List.length_set, if_pos hjl, hi]
  · have h1' : ¬ k = j := fun e => h1 e.symm
    rw [if_neg h1, if_neg h1']
    by_cases h2 : i = k
    · subst h2
      rw [if_pos rfl, if_pos rfl, if_pos hil, hj]
    · have h2' : ¬ k = i := fun e => h2 e.symm
      rw [if_neg h2, if_neg h2']
theorem Nest.swap {w : World} {B : Nat} {rows : List Value} {xss : List (List Int)} (h : Nest w B rows xss) {i j : Nat} {ri rj : Value} (hi : rows[i]? = some ri) (hj : rows[j]? = some rj) : Nest w B ((rows.set i rj).set j ri) (swapL xss i j) := by
  have hil := (List.getElem?_eq_some_iff.1 hi).1
  have hjl := (List.getElem?_eq_some_iff.1 hj).1
  rw [h.len] at hil hjl
  refine h.moved (fun k => if k = j then i else if k = i then j else k) (fun a b hab => ?_) (by simp [swapL, h.len]) (swapV_get? rows hi hj) (swapL_get? xss hil hjl)
  show (if a = j then i else if a = i then j else a) ≠ (if b = j then i else if b = i then j else b)
  split <;> split <;> (try split) <;> (try split) <;> omega
section
variable {w0 w w1 w2 : World} {g n c : Nat} {xss : List (List Int)}
/-- Rows exchanged. -/
theorem MkII.swap (h : MkII w0 w (some ⟨g, 0, none⟩) n c xss) {i j : Nat} (hi : i < n) (hj : j < n) {ri rj : Value} (ci : w.cell? ⟨g, i, none⟩ = some ri) (cj : w.cell? ⟨g, j, none⟩ = some rj) :
    MkII w0 ((w.setCell ⟨g, i, none⟩ rj).setCell ⟨g, j, none⟩ ri) (some ⟨g, 0, none⟩) n c (swapL xss i j) := by
  obtain ⟨rows, hm, hn⟩ := h
  have ei : rows[i]? = some ri := by
    obtain ⟨u, hu, hc⟩ := hm.2.cell_ hi
    rw [hu, ← ci, hc]
  have ej : rows[j]? = some rj := by
    obtain ⟨u, hu, hc⟩ := hm.2.cell_ hj
    rw [hu, ← cj, hc]
  obtain ⟨m1, g1⟩ := hm.set i rj
  obtain ⟨m2, g2⟩ := m1.set j ri
  exact ⟨_, m2, ((hn.grown hm.2 (by decide) g1).grown m1.2 (by decide) g2).swap ei ej⟩
/-- A row replaced by a new one. -/
theorem MkII.setRow (h : MkII w0 w1 (some ⟨g, 0, none⟩) n c xss) {A1 : Option Addr} {m c1 : Nat} {xs : List Int} (hr : Mk w1 w2 2 A1 m c1 (ints xs)) (k : Nat) :
    MkII w0 (w2.setCell ⟨g, k, none⟩ (.slice A1 m c1)) (some ⟨g, 0, none⟩) n c (xss.set k xs) := by
  obtain ⟨rows, hm, hn⟩ := h
  have hm2 := hm.below hr.1
  obtain ⟨m1, g1⟩ := hm2.set k (.slice A1 m c1)
  exact ⟨_, m1, (hn.setNew hr hm.1.size k).grown hm2.2 (by decide) g1⟩
/-- A row of its own stays when a cell of the outer list is written. -/
theorem MkII.rowKept (h : MkII w0 w (some ⟨g, 0, none⟩) n c xss) {B : Nat} {A' : Option Addr} {m c' : Nat} {us : List Value} (ho : Own w B 2 A' m c' us) (k : Nat) (u : Value) : Own (w.setCell ⟨g, k, none⟩ u) B 2 A' m c' us := by
  obtain ⟨rows, hm, hn⟩ := h
  obtain ⟨m1, g1⟩ := hm.set k u
  exact ho.grown g1 (ho.ne hm.2 (by decide))
/-- One row's place is given to another row, which is then replaced by a new one. -/
theorem MkII.swapSet (h : MkII w0 w (some ⟨g, 0, none⟩) n c xss) {f d : Nat} (hf : f < n) (hd : d < n) {rf rd : Value} (cf : w.cell? ⟨g, f, none⟩ = some rf) (cd : w.cell? ⟨g, d, none⟩ = some rd)
    {A1 : Option Addr} {m c1 : Nat} {xs : List Int} (hr : Mk (w.setCell ⟨g, f, none⟩ rd) w2 2 A1 m c1 (ints xs)) :
    MkII w0 (w2.setCell ⟨g, d, none⟩ (.slice A1 m c1)) (some ⟨g, 0, none⟩) n c ((swapL xss d f).set d xs) := by
  obtain ⟨rows, hm, hn⟩ := h
  have ef : rows[f]? = some rf := by
    obtain ⟨u, hu, hc⟩ := hm.2.cell_ hf
    rw [hu, ← cf, hc]
  have ed : rows[d]? = some rd := by
    obtain ⟨u, hu, hc⟩ := hm.2.cell_ hd
    rw [hu, ← cd, hc]
  obtain ⟨m1, g1⟩ := hm.set f rd
  have hm2 := m1.below hr.1
  obtain ⟨m3, g3⟩ := hm2.set d (.slice A1 m c1)
  have hsz : w0.heap.size ≤ (w.setCell ⟨g, f, none⟩ rd).heap.size := m1.1.size
  have hns := ((hn.grown hm.2 (by decide) g1).swap ed ef).setNew hr hsz d
  have e1 : (((rows.set d rf).set f rd).set d (.slice A1 m c1)) = ((rows.set f rd).set d (.slice A1 m c1)) := by
    apply List.ext_getElem?
    intro k
    simp only [List.getElem?_set, List.length_set]
    by_cases h1 : d = k
    · simp [h1]
    · simp only [h1, if_false]
  rw [e1] at hns
  exact ⟨_, m3, hns.grown hm2.2 (by decide) g3⟩
theorem MkII.frozen_ (h : MkII w0 w (some ⟨g, 0, none⟩) n c xss) (k : Nat) : w.frozen? ⟨g, k, none⟩ = false := by
  obtain ⟨rows, hm, _⟩ := h
  exact hm.2.frozen_ k
theorem MkII.cellSet (h : MkII w0 w (some ⟨g, 0, none⟩) n c xss) (k : Nat) {A1 : Option Addr} {m c1 : Nat} {j : Nat} (hj : j < n) : ∃ v, (w.setCell ⟨g, k, none⟩ (.slice A1 m c1)).cell? ⟨g, j, none⟩ = some v := by
  obtain ⟨rows, hm, _⟩ := h
  obtain ⟨m1, _⟩ := hm.set k (.slice A1 m c1)
  obtain ⟨v, _, hv⟩ := m1.2.cell_ hj
  exact ⟨v, hv⟩
theorem MkII.outSet (h : MkII w0 w (some ⟨g, 0, none⟩) n c xss) (k : Nat) (u : Value) : ∃ us, Mk w0 (w.setCell ⟨g, k, none⟩ u) 24 (some ⟨g, 0, none⟩) n c us := by
  obtain ⟨rows, hm, _⟩ := h
  exact ⟨_, (hm.set k u).1⟩
theorem MkII.outer {A : Option Addr} (h : MkII w0 w A n c xss) : ∃ us, Mk w0 w 24 A n c us := by
  obtain ⟨rows, hm, _⟩ := h
  exact ⟨_, hm⟩
/-- The list cut down. -/
theorem MkII.cut {A : Option Addr} {k : Nat} (h : MkII w0 w A n c xss) (hk : k ≤ n) : MkII w0 w A k c (xss.take k) := by
  obtain ⟨rows, hm, hn⟩ := h
  refine ⟨rows.take k, ⟨hm.1, hm.2.cut hk⟩, by rw [List.length_take, List.length_take, hn.len], fun j hj => ?_, fun i j b hij hi => ?_⟩
  · have hj2 : j < k ∧ j < xss.length := by rw [List.length_take] at hj; omega
    obtain ⟨A', c', e, ho⟩ := hn.row j hj2.2
    rw [List.getElem_take]
    exact ⟨A', c', by rw [List.getElem?_take, if_pos hj2.1]; exact e, ho⟩
  · rw [List.getElem?_take] at hi ⊢
    split at hi
    · split
      · exact hn.apart i j b hij hi
      · simp
    · simp at hi
end
theorem ent_at {M : List (List Int)} {i k : Nat} (hi : i < M.length) (hk : k < M[i].length) : ent M i k = M[i][k] := by
  unfold ent
  rw [getD_of_lt [] hi, getD_of_lt 0 hk]
theorem Own.keep {w w' : World} {B : Nat} {E : TypeId} {A : Option Addr} {n c : Nat} {us : List Value} (h : Own w B E A n c us) (hk : ∀ b, B ≤ b → b < w.heap.size → w'.heap[b]? = w.heap[b]?) : Rd w' A n us := by
  refine ⟨h.len, fun hn => ?_⟩
  rcases h.form with ⟨_, h0⟩ | ⟨g, rfl, hg, hg2⟩
  · omega
  · obtain ⟨g', o, e, hc⟩ := h.rd.2 hn
    refine ⟨g', o, e, fun k u hu => ?_⟩
    injection e with e
    injection e with e1 _ _
    subst e1
    exact (World.cell?_of_block (hk g hg hg2)).trans (hc k u hu)
theorem MkII.keep {w0 w w' : World} {A : Option Addr} {n c : Nat} {xss : List (List Int)} (h : MkII w0 w A n c xss) (hk : ∀ b, w0.heap.size ≤ b → b < w.heap.size → w'.heap[b]? = w.heap[b]?) : RdII w' A n xss := by
  obtain ⟨rows, hm, hn⟩ := h
  exact ⟨rows, hm.2.keep hk, hn.len, fun k hk' => by obtain ⟨A', c', e, ho⟩ := hn.row k hk'; exact ⟨A', c', e, ho.keep hk, ho.cap⟩⟩
/-- A new row is appended: what else is said of memory, too. -/
theorem wpList_appRowG {ops : Array Oper} {rest : List Oper} {o : Oper} {a : Act} {Q : Exit → Act → World → Prop} (w0 wr w1 : World)
    (hgd : o.guard = none) (s x : Operand) (ho : o.op = .call { callee := .builtin .append, args := #[s, x], argTypes := #[44, 44] })
    (A : Option Addr) (n c : Nat) (xss : List (List Int)) (A1 : Option Addr) (m c1 : Nat) (xs : List Int) (hM : MkII w0 wr A n c xss) (hr : Mk wr w1 2 A1 m c1 (ints xs)) (hn : n ≤ 1099511627776)
    (hs : a.eval s = .slice A n c) (hx : a.eval x = .slice (some ⟨w1.heap.size, 0, none⟩) 1 1)
    (h : ∀ A' c' w', MkII w0 w' A' (n + 1) c' (xss ++ [xs]) → w1.grownBy w' (Value.slice A n c).ownBlock → (∃ g, A' = some ⟨g, 0, none⟩ ∧ ((Value.slice A n c).ownBlock = some g ∨ w1.heap.size ≤ g)) → wpList Tryz.prog ops Q rest (a.put o.dst (.slice A' (n + 1) c')) w') :
    wpList Tryz.prog ops Q (o :: rest) a (w1.alloc (.cells #[.slice A1 m c1] 24)) := by
  obtain ⟨rows, hm, hnest⟩ := hM
  have hm1 := hm.below hr.1
  have hn1 := hnest.snoc hr hm.1.size
  refine wpList_app1 w0 w1 44 24 (.slice none 0 0) 24 Tryz.underlying44 info_s rfl (by omega) hgd s x ho A n c rows (.slice A1 m c1) hm1 hn rfl hs hx ?_
  intro A' c' w' hM' hg hat
  exact h A' c' w' ⟨_, hM', hn1.grown hm1.2 (by decide) hg⟩ hg hat
/-- What is kept of the blocks between two sizes, and where a list lies that grows. -/
def Keeps (w2 w3 wr : World) (v : Value) : Prop := w3.heap.size ≤ wr.heap.size ∧ (∀ b, w2.heap.size ≤ b → b < w3.heap.size → wr.heap[b]? = w3.heap[b]?) ∧ ∀ gb, v.ownBlock = some gb → gb < w2.heap.size ∨ w3.heap.size ≤ gb
theorem lt_of_own {g gb k n c : Nat} (e : (Value.slice (some ⟨g, 0, none⟩) n c).ownBlock = some gb) (h : g < k) : gb < k := by
  have : g = gb := by simpa [Value.ownBlock] using e
  omega
theorem Keeps.step {w2 w3 wr w5 w6 : World} {A A' : Option Addr} {n c c' n' : Nat} (h : Keeps w2 w3 wr (.slice A n c)) (hb : Below wr.heap.size wr w5) (hg : w5.grownBy w6 (Value.slice A n c).ownBlock)
    (hat : ∃ g, A' = some ⟨g, 0, none⟩ ∧ ((Value.slice A n c).ownBlock = some g ∨ w5.heap.size ≤ g)) : Keeps w2 w3 w6 (.slice A' n' c') := by
  obtain ⟨h1, h2, h3⟩ := h
  have s1 := hb.size
  have s2 := hg.size
  refine ⟨by omega, fun b hb1 hb2 => ?_, fun gb hgb => ?_⟩
  · rw [hg.block b (by omega) (fun e => ?_), hb.block b (by omega), h2 b hb1 hb2]
    rcases h3 b e.symm with h | h <;> omega
  · obtain ⟨g, rfl, hor⟩ := hat
    have : g = gb := by simpa [Value.ownBlock] using hgb
    subst this
    rcases hor with he | he
    · exact h3 g he
    · right; omega
theorem MkII.ne_blk {w0 w : World} {A : Option Addr} {n c g : Nat} {xss : List (List Int)} {t : TypeId} {cs : Array Value} (h : MkII w0 w A n c xss) (hb : Blk w g t cs) (hE : 24 ≠ t) : some g ≠ (Value.slice A n c).ownBlock := by
  obtain ⟨rows, hm, _⟩ := h
  exact hm.2.ne_blk hb hE
theorem RdII.row0 {w : World} {g o n : Nat} {M : List (List Int)} {p : Int} {m : Nat} (h : RdII w (some ⟨g, o, none⟩) n M) (h0 : 0 < n) (hT : Tab p m M) : ∃ A0 c0, w.cell? ⟨g, o, none⟩ = some (.slice A0 m c0) := by
  obtain ⟨g', o', e', hx0, A0, c0, hc, _, _⟩ := h.at_ h0
  injection e' with e'
  injection e' with e1 e2 _
  subst e1; subst e2
  refine ⟨A0, c0, ?_⟩
  rw [Nat.add_zero] at hc
  rw [hc, (hT M[0] (List.getElem_mem hx0)).1]
end Go.Proofs.YtggigolkncckoaaGreat
namespace Go.Proofs.YtggigolkncckoaaGreat
open Go.RowKit
theorem ent_at' {M : List (List Int)} {i k : Nat} (hi : i < M.length) (hk : k < M[i].length) : ent M i k = M[i][k] := by
  unfold ent
  rw [getD_of_lt [] hi, getD_of_lt 0 hk]
theorem i64_small {x : Int} (h1 : -1000000 ≤ x) (h2 : x ≤ 1000000) : IntKind.i64.wrap x = x := i64_fit x (by omega) (by omega)
theorem clearTo_same {p : Int} {m : List (List Int)} {d k j : Nat} (hj : j < m.length) (h0 : ent m j k = 0) (hN : NumsL p (m.getD j [])) : clearTo p m d k (j + 1) = clearTo p m d k j := by
  refine tab_congr fun r _ => ?_
  by_cases hr : r = j
  · subst hr
    by_cases hd : r = d
    · rw [if_neg (fun h => h.2 hd), if_neg (fun h => h.2 hd)]
    · rw [if_pos ⟨by omega, hd⟩, if_neg (by omega), h0]
      exact plusL_zero _ _ hN
  · by_cases hd : r = d
    · rw [if_neg (fun h => h.2 hd), if_neg (fun h => h.2 hd)]
    · by_cases hl : r < j
      · rw [if_pos ⟨by omega, hd⟩, if_pos ⟨hl, hd⟩]
      · rw [if_neg (by omega), if_neg (by omega)]
theorem keepR3 {B : Nat} {W0 w1 w2 : World} {p q r : Addr} {u v x : Value} (h : w1.cell? p = some u ∧ w1.cell? q = some v ∧ w1.cell? r = some x ∧ Below B W0 w1) (hb : Below w1.heap.size w1 w2) (hB : B ≤ W0.heap.size) :
    w2.cell? p = some u ∧ w2.cell? q = some v ∧ w2.cell? r = some x ∧ Below B W0 w2 :=
  ⟨(hb.cell (World.block_lt_of_cell? _ _ h.1)).trans h.1, (hb.cell (World.block_lt_of_cell? _ _ h.2.1)).trans h.2.1, (hb.cell (World.block_lt_of_cell? _ _ h.2.2.1)).trans h.2.2.1, h.2.2.2.trans (hb.mono (Nat.le_trans hB h.2.2.2.size))⟩
set_option maxRecDepth 8000 in
set_option maxHeartbeats 400000 in
theorem l01Own_any (A : Option Addr) (n c : Nat) (xs : List Int) (w : World) (hn : n ≤ 65536) (ha : Rd w A n (ints xs)) :
    Calls Tryz.prog 268 #[.slice A n c] w fun e w' => ∃ A' c', e = .returned (.slice A' n c') ∧ MkI w w' A' n c' xs := by
  have hxl : xs.length = n := by have := ha.1; rwa [ints_length] at this
  have hM0 := Mk.lit (E := 2) (Below.refl w.heap.size w) #[] (by simp)
  obtain ⟨i, hi, h1, h2, h3⟩ := info_parts info_i
  obtain ⟨b1, b2⟩ := bound_of (Nat.le_trans hn (by decide))
  clear b1
  have HB := Lib.hid b2
  clear b2
  obtain ⟨p, hnews⟩ : ∃ p : Addr, (∀ (j : Nat) (u : Value), (ints xs)[j]? = some u → (w.alloc (.cells #[] 2)).cell? (p.add j) = some u) ∧ (A = some p ∨ (A = none ∧ n = 0)) := by
    cases A with
    | none =>
      have h0 : n = 0 := by
        rcases Nat.eq_zero_or_pos n with h | h
        · exact h
        · obtain ⟨g, o, e, _⟩ := ha.2 h; cases e
      exact ⟨⟨0, 0, none⟩, fun j u hu => by have := (List.getElem?_eq_some_iff.1 hu).1; rw [ints_length] at this; omega, .inr ⟨rfl, h0⟩⟩
    | some p =>
      refine ⟨p, fun j u hu => ?_, .inl rfl⟩
      have hj : j < n := by have := (List.getElem?_eq_some_iff.1 hu).1; rw [ints_length] at this; omega
      obtain ⟨g, o, e, hc⟩ := (ha.below ((Below.refl _ w).alloc (Nat.le_refl _) (.cells #[] 2))).2 (by omega)
      injection e with e; subst e
      rw [Addr.add_lit]
      exact hc j u hu
  have Hx := Lib.hid hxl
  have HI := Lib.hid hi
  have H1 := Lib.hid h1
  have H2 := Lib.hid h2
  have H3 := Lib.hid h3
  have HN := Lib.hid hnews.1
  have hA := hnews.2
  clear hnews hi h1 h2 h3 hxl
  rcases hA with rfl | ⟨rfl, rfl⟩
  · go_enter Tryz.func268, Tryz.ntmps268
    go_wp2_with (at_builtin; refine wpList_append_own_at (w.alloc (.cells #[] 2)) rfl _ _ 24 rfl w.heap.size 2 i _ 1 8 Tryz.underlying24 HI.out H1.out H2.out H3.out rfl (by omega) (.slice (some ⟨w.heap.size, 0, none⟩) 0 0) 0 [] rfl hM0.2 p n c (ints xs) rfl (by rw [ints_length, Hx.out, Nat.mul_one]) HN.out (by intro u hu; obtain ⟨y, _, rfl⟩ := List.mem_map.1 hu; rfl) (by simp only [maxLen]; omega) (by have := HB.out 8 (by omega); omega) (by simp) ?_; intro v' w' hown hg _ _)
    have hb' : Below w.heap.size w w' := hM0.1.grown hg (by simp) (fun k hk => (hM0.2.lt k hk).1)
    rw [Nat.zero_add, List.nil_append] at hown
    rcases hown.2 with ⟨rfl, h0⟩ | ⟨g, cap, cur, rfl, hr⟩
    · subst h0
      go_ret
      exact ⟨none, 0, rfl, hb', hown⟩
    · go_ret
      exact ⟨_, _, rfl, hb', hown⟩
  · have hxs : xs = [] := List.eq_nil_of_length_eq_zero Hx.out
    subst hxs
    go_enter Tryz.func268, Tryz.ntmps268
    go_wp2
    go_ret
    exact ⟨_, _, rfl, hM0⟩
set_option maxHeartbeats 1600000 in
set_option maxRecDepth 8000 in
theorem cloneRows_any (p : Int) (A : Option Addr) (n c : Nat) (M : List (List Int)) (m : Nat) (w : World) (hn : n ≤ 65536) (hm : m ≤ 65536) (ha : RdII w A n M) (hT : Tab p m M) :
    Calls Tryz.prog 273 #[.slice A n c] w fun e w' => ∃ A' c', e = .returned (.slice A' n c') ∧ MkII w w' A' n c' M := by
  have hML := ha.len
  have HT := Lib.hid hT
  have HML := Lib.hid hML
  have hM0 : MkII w (w.alloc (.cells #[] 24)) (some ⟨w.heap.size, 0, none⟩) 0 0 [] := MkII.empty (Below.refl _ _)
  clear hT hML
  go_enter Tryz.func273, Tryz.ntmps273
  go_wp2
  obtain ⟨w1, hw1⟩ : ∃ W, W = w.alloc (.cells #[] 24) := ⟨_, rfl⟩
  rw [← hw1] at hM0 ⊢
  clear hw1
  go_loopw [3, 5, 9] (fun out _ i wr => ∃ (k : Nat) (A' : Option Addr) (c' : Nat), k ≤ n ∧ i = .int .i64 k ∧ out = .slice A' k c' ∧ MkII w wr A' k c' (M.take k)) (fun _ _ i _ => n - (intOf i).toNat)
  case atStart => exact ⟨0, _, _, by omega, rfl, rfl, by simpa using hM0⟩
  case round =>
    obtain ⟨k, A', c', hk, rfl, rfl, hM⟩ := hrel
    clear hM0
    by_cases hlt : k < n
    · obtain ⟨g, o, rfl, hxk, A1, c1, hcx, hr1, _⟩ := (ha.below hM.b).at_ hlt
      have hl1 : M[k].length = m := (HT.out M[k] (List.getElem_mem hxk)).1
      rw [hl1] at hcx hr1
      have hcall := clone_any A1 m c1 M[k] wr hm hr1
      have HV : Hid (M.take (k + 1) = M.take k ++ [M[k]]) := Lib.hid (List.take_succ_eq_append_getElem hxk)
      have HM := Lib.hid hM
      clear hM hr1 hl1 ha
      go_wp2_with fail
      refine hcall.mono ?_
      rintro e w5 ⟨A5, c5, rfl, hM5⟩
      clear hcall
      go_wp2_with (at_builtin; refine wpList_appRow w wr _ rfl _ _ rfl A' k c' _ A5 m c5 _ HM.out hM5 (by omega) rfl ?_ ?_; (go_simp); intro A6 c6 w6 hM6)
      go_roundw
      case rel => exact ⟨k + 1, A6, c6, by omega, by go_num, rfl, by rw [HV.out]; exact hM6⟩
      case measure => simp [intOf]; omega
    · obtain rfl : k = n := by omega
      go_wp2
      go_ret
      rw [List.take_of_length_le (by rw [HML.out]; exact Nat.le_refl _)] at hM
      exact ⟨_, _, rfl, hM⟩
set_option maxHeartbeats 1600000 in
set_option maxRecDepth 8000 in
theorem l01Own2_any (p : Int) (A : Option Addr) (n c : Nat) (M : List (List Int)) (m : Nat) (w : World) (hn : n ≤ 65536) (hm : m ≤ 65536) (ha : RdII w A n M) (hT : Tab p m M) :
    Calls Tryz.prog 219 #[.slice A n c] w fun e w' => ∃ A' c', e = .returned (.slice A' n c') ∧ MkII w w' A' n c' M := by
  have hML := ha.len
  have HT := Lib.hid hT
  have HML := Lib.hid hML
  have hM0 : MkII w (w.alloc (.cells #[] 24)) (some ⟨w.heap.size, 0, none⟩) 0 0 [] := MkII.empty (Below.refl _ _)
  clear hT hML
  go_enter Tryz.func219, Tryz.ntmps219
  go_wp2
  obtain ⟨w1, hw1⟩ : ∃ W, W = w.alloc (.cells #[] 24) := ⟨_, rfl⟩
  rw [← hw1] at hM0 ⊢
  clear hw1
  go_loopw [3, 4] (fun out i wr => ∃ (k : Nat) (A' : Option Addr) (c' : Nat), k ≤ n ∧ i = .int .i64 k ∧ out = .slice A' k c' ∧ MkII w wr A' k c' (M.take k)) (fun _ i _ => n - (intOf i).toNat)
  case atStart => exact ⟨0, _, _, by omega, rfl, rfl, by simpa using hM0⟩
  case round =>
    obtain ⟨k, A', c', hk, rfl, rfl, hM⟩ := hrel
    clear hM0
    by_cases hlt : k < n
    · obtain ⟨g, o, rfl, hxk, A1, c1, hcx, hr1, _⟩ := (ha.below hM.b).at_ hlt
      have hl1 : M[k].length = m := (HT.out M[k] (List.getElem_mem hxk)).1
      rw [hl1] at hcx hr1
      have hcall := l01Own_any A1 m c1 M[k] wr hm hr1
      have HV : Hid (M.take (k + 1) = M.take k ++ [M[k]]) := Lib.hid (List.take_succ_eq_append_getElem hxk)
      have HM := Lib.hid hM
      clear hM hr1 hl1 ha
      go_wp2_with fail
      refine hcall.mono ?_
      rintro e w5 ⟨A5, c5, rfl, hM5⟩
      clear hcall
      go_wp2_with (at_builtin; refine wpList_appRow w wr _ rfl _ _ rfl A' k c' _ A5 m c5 _ HM.out hM5 (by omega) rfl ?_ ?_; (go_simp); intro A6 c6 w6 hM6)
      go_roundw
      case rel => exact ⟨k + 1, A6, c6, by omega, by go_num, rfl, by rw [HV.out]; exact hM6⟩
      case measure => simp [intOf]; omega
    · obtain rfl : k = n := by omega
      go_wp2
      go_ret
      rw [List.take_of_length_le (by rw [HML.out]; exact Nat.le_refl _)] at hM
      exact ⟨_, _, rfl, hM⟩
set_option maxHeartbeats 6400000 in
set_option maxRecDepth 8000 in
theorem basis_any (p : Int) (A : Option Addr) (n c : Nat) (M : List (List Int)) (m : Nat) (w : World) (HP : isP p = true) (hn : n ≤ 65536) (hm : m ≤ 65536) (ha : RdII w A n M) (hT : Tab p m M) :
    Calls Tryz.prog 324 #[.int .i64 p, .slice A n c] w fun e w' => ∃ A' c', e = .returned (.slice A' (basisL p M).length c') ∧ MkII w w' A' (basisL p M).length c' (basisL p M) := by
  have hML := ha.len
  obtain ⟨hp3, hp2⟩ := isP_ge HP
  have hp : 2 ≤ p := by omega
  have hclone := cloneRows_any p A n c M m w hn hm ha hT
  have HT := Lib.hid hT
  have HP' := Lib.hid HP
  by_cases h0 : 0 < n
  · have HBL : Hid (basisL p M = (basisTo p M m).1.take (basisTo p M m).2) := Lib.hid (by unfold basisL; rw [row0_len hT (by omega)])
    have HINV : Hid (∀ k, Tab p m (basisTo p M k).1 ∧ (basisTo p M k).1.length = n ∧ (basisTo p M k).2 ≤ n) := Lib.hid (fun k => by
      have := basisTo_inv (p := p) (by omega) M hT k
      rw [hML] at this
      exact this)
    clear hT HP hML ha
    go_enter Tryz.func324, Tryz.ntmps324
    go_wp2_with fail
    refine hclone.mono ?_
    rintro e w1 ⟨A1, c1, rfl, hM1⟩
    clear hclone
    obtain ⟨g, rfl, -⟩ := hM1.at_ h0
    go_wp2
    go_loopw [6, 7] (fun d q wr => ∃ dn kn : Nat, d = .int .i64 dn ∧ q = .int .i64 kn ∧ kn ≤ m ∧ dn = (basisTo p M kn).2 ∧ MkII w wr (some ⟨g, 0, none⟩) n c1 (basisTo p M kn).1) (fun _ q _ => m - (intOf q).toNat)
    case atStart => exact ⟨0, 0, rfl, rfl, by omega, rfl, hM1⟩
    case round =>
      obtain ⟨dn, kn, rfl, rfl, hkm, hdn, hM⟩ := hrel
      clear hM1
      obtain ⟨hT1, hl1, hd1⟩ := HINV.out kn
      rw [← hdn] at hd1
      have HSUC : Hid (basisTo p M (kn + 1) = stepB p kn ((basisTo p M kn).1, dn)) := Lib.hid (by rw [hdn]; rfl)
      have HFULL : Hid (dn = n → basisL p M = (basisTo p M kn).1.take dn) := Lib.hid (fun h => by
        rw [HBL.out, basisTo_full p M kn m hkm (by rw [← hdn, hl1]; exact h), ← hdn])
      have HEND : Hid (kn = m → basisL p M = (basisTo p M kn).1.take dn) := Lib.hid (fun h => by rw [HBL.out, ← h, ← hdn])
      obtain ⟨L, hL⟩ : ∃ L, L = (basisTo p M kn).1 := ⟨_, rfl⟩
      rw [← hL] at hM hT1 hl1 HSUC HFULL HEND
      clear hL hdn
      have HT1 := Lib.hid hT1
      have HL1 := Lib.hid hl1
      have HM := Lib.hid hM
      have hcap : n ≤ c1 := by obtain ⟨rows, hm', _⟩ := hM; exact hm'.2.cap
      obtain ⟨g0, e0, hx0, A0, c0, hc0, -⟩ := hM.at_ h0
      injection e0 with e0; injection e0 with e0 _ _; subst e0
      have hl0 : L[0].length = m := (HT1.out L[0] (List.getElem_mem hx0)).1
      rw [hl0] at hc0
      clear hl0 hT1 hl1 hM
      by_cases hgo : kn < m ∧ dn < n
      · obtain ⟨hlk, hld⟩ := hgo
        go_wp2
        go_loop [8] (fun i => ∃ j : Nat, dn ≤ j ∧ j ≤ n ∧ i = .int .i64 j ∧ Hid (piv L kn (n - j) j = pivOf L kn dn)) (fun i => n - (intOf i).toNat)
        case atStart => exact ⟨dn, by omega, by omega, rfl, Lib.hid (by unfold pivOf; rw [HL1.out])⟩
        case round =>
          obtain ⟨j, hj1, hj2, rfl, hj3⟩ := hrel
          by_cases hlj : j < n
          · have hld : dn < n := by omega
            obtain ⟨g0, e0, hxj, Aj, cj, hcj, hrj⟩ := HM.out.at_ hlj
            injection e0 with e0; injection e0 with e0 _ _; subst e0
            have HRJ := Lib.hid (HT1.out L[j] (List.getElem_mem hxj))
            have hlj2 : L[j].length = m := HRJ.out.1
            rw [hlj2] at hcj hrj
            obtain ⟨gj, oj, rfl, hxe, hce⟩ := hrj.rd.int hlk
            have HE : Hid (ent L j kn = L[j][kn]) := Lib.hid (ent_at' hxj hxe)
            have HPV : Hid (piv L kn (n - j) j = if ent L j kn = 0 then piv L kn (n - (j + 1)) (j + 1) else j) := Lib.hid (by
              rw [show n - j = (n - (j + 1)) + 1 by omega]; rfl)
            have HROW : Hid ((swapL L dn j)[dn]? = some L[j]) := Lib.hid (by
              rw [swapL_get? L (by rw [HL1.out]; exact hld) hxj]
              by_cases hdj : dn = j
              · subst hdj; rw [if_pos rfl]; exact List.getElem?_eq_getElem hxj
              · rw [if_neg hdj, if_pos rfl]; exact List.getElem?_eq_getElem hxj)
            have HGD : Hid (L.getD j [] = L[j]) := Lib.hid (getD_of_lt [] hxj)
            obtain ⟨R, hR⟩ : ∃ R, R = L[j] := ⟨_, rfl⟩
            have HXE : Hid (∀ h : kn < R.length, R[kn] = L[j][kn]) := Lib.hid (fun h => by simp only [hR])
            rw [← hR] at hrj HRJ HROW HGD
            clear hlj2
            obtain ⟨xe, hxe'⟩ : ∃ x, x = L[j][kn] := ⟨_, rfl⟩
            rw [← hxe'] at hce HE HXE
            have HX : Hid (0 ≤ xe ∧ xe < p) := Lib.hid (hxe' ▸ ((HT1.out L[j] (List.getElem_mem hxj)).2 _ (List.getElem_mem hxe)))
            clear hxe' hxe hR hxj
            cases hz : (xe == 0)
            · have hne : xe ≠ 0 := by simpa using hz
              have HVP : Hid (pivOf L kn dn = j) := Lib.hid (by rw [← hj3.out, HPV.out, if_neg (by rw [HE.out]; exact hne)])
              obtain ⟨g0, e0, hxd, Ad, cd, hcd, hrd⟩ := HM.out.at_ hld
              injection e0 with e0; injection e0 with e0 _ _; subst e0
              have hld2 : L[dn].length = m := (HT1.out L[dn] (List.getElem_mem hxd)).1
              rw [hld2] at hcd hrd
              have fd := HM.out.frozen_ dn
              have fj := HM.out.frozen_ j
              have HSC : Hid (scaledAt p L kn dn = (swapL L dn j).set dn (scaleL p R (invF p xe))) := Lib.hid (by unfold scaledAt; rw [HVP.out, HGD.out, HE.out])
              have HTS : Hid (Tab p m (scaledAt p L kn dn) ∧ (scaledAt p L kn dn).length = n) := Lib.hid ⟨scaledAt_tab (by omega) HT1.out (by rw [HL1.out]; exact hld) (by rw [HVP.out, HL1.out]; exact hlj), by rw [scaledAt_len, HL1.out]⟩
              have HNEXT : Hid (basisTo p M (kn + 1) = (clearTo p (scaledAt p L kn dn) dn kn n, dn + 1)) := Lib.hid (by
                rw [HSUC.out]; unfold stepB; rw [if_neg (by simp only; rw [HVP.out, HL1.out]; omega)]; simp only [HL1.out])
              have HSCD : Hid ((scaledAt p L kn dn).getD dn [] = scaleL p R (invF p xe)) := Lib.hid (by
                rw [HSC.out, getD_set, if_pos ⟨rfl, by rw [swapL_len, HL1.out]; exact hld⟩])
              have HSW := Lib.hid (HM.out.swap hld hlj hcd hcj)
              obtain ⟨uj, hcs⟩ := HM.out.cellSet dn (A1 := some ⟨gj, oj, none⟩) (m := m) (c1 := cj) hlj
              clear hrj hrd hld2 hxd
              go_wp2
              go_region
              obtain ⟨w2, hw2⟩ : ∃ W, W = ((wr.setCell ⟨g, dn, none⟩ (.slice (some ⟨gj, oj, none⟩) m cj)).setCell ⟨g, j, none⟩ (.slice Ad m cd)).drew := ⟨_, rfl⟩
              have hM2 : MkII w w2 (some ⟨g, 0, none⟩) n c1 (swapL L dn j) := by rw [hw2]; exact HSW.out.below ((Below.refl _ _).drew)
              rw [← hw2]
              clear hw2 HSW hcs fd fj hcd hcj hce hc0
              obtain ⟨g0, e0, hxs, As, cs, hcs2, hrs⟩ := hM2.at_ hld
              injection e0 with e0; injection e0 with e0 _ _; subst e0
              have hrow : (swapL L dn j)[dn] = R := by have := HROW.out; rw [List.getElem?_eq_getElem hxs] at this; exact Option.some.inj this
              rw [hrow] at hcs2 hrs
              have hRl := HRJ.out.1
              rw [hRl] at hcs2 hrs
              obtain ⟨gs, os, rfl, hxe2, hce2⟩ := hrs.rd.int hlk
              rw [HXE.out hxe2] at hce2
              have HM2 := Lib.hid hM2
              have HRS := Lib.hid hrs
              clear hM2 hrs hrow hxe2 hxs hRl
              have hiv := invF_small hp xe
              have hx1 := HX.out
              have fd := HM2.out.frozen_ dn
              go_wp2
              refine wp_obs 18 [[], [], [], [], [], [3, 4], [3, 4, 5], [], [], [], [8, 9], [8, 9, 10], [], [8, 9, 10, 11, 12], [8, 9, 10, 11, 12, 13], [7, 8, 9, 10, 11, 12, 13, 14], [2, 3, 4, 5, 6, 7, 8, 9, 10, 11, 12, 13, 14, 15], [0, 1], [0, 1, 2, 3, 4, 5, 6, 7, 8, 9, 10, 11, 12, 13, 14, 15, 16, 17]] [VIs (.slice (some ⟨g, 0, none⟩) n c1), VIs (.int .i64 (dn)), VIs (.int .i64 (p)), VIs (.slice (some ⟨g, 0, none⟩) n c1), VIs (.int .i64 (dn)), VIs (.pointer (some ⟨g, dn, none⟩)), VIs (.slice (some ⟨gs, os, none⟩) m cs), VIs (.int .i64 (p)), VIs (.slice (some ⟨g, 0, none⟩) n c1), VIs (.int .i64 (dn)), VIs (.pointer (some ⟨g, dn, none⟩)), VIs (.slice (some ⟨gs, os, none⟩) m cs), VIs (.int .i64 (kn)), VIs (.pointer (some ⟨gs, os + kn, none⟩)), VIs (.int .i64 (xe)), VIs (.int .i64 (invF p xe)), VSl w2 m (scaleL p R (invF p xe)), VIs (.pointer (some ⟨g, dn, none⟩))] (fun w' => w'.cell? ⟨g, dn, none⟩ = some (.slice (some ⟨gs, os, none⟩) m cs) ∧ w'.cell? ⟨gs, os + kn, none⟩ = some (.int .i64 xe) ∧ Below w2.heap.size w2 w') (by kernel_rfl) (by kernel_rfl) (fun _ _ h hb => keepB2 h hb (Nat.le_refl _)) (⟨hcs2, hce2, (Below.refl _ _).drew⟩) (fun x => ?_)
              refine obs_step (Eq.trans (by simp only [List.getElem?_toArray, List.getElem?_cons_zero]; exact rfl) rfl) rfl (fun w' hS hV K hK => ?_) ?_
              · have q0 := hS.1; have q1 := hS.2.1; have q2 := hS.2.2
                go_simp
                exact hK.out _ _ _ rfl rfl rfl (Below.refl _ _)
              simp only [List.setIfInBounds_toArray, List.set_cons_zero, List.set_cons_succ]
              refine obs_step (Eq.trans (by simp only [List.getElem?_toArray, List.getElem?_cons_succ, List.getElem?_cons_zero]; exact rfl) rfl) rfl (fun w' hS hV K hK => ?_) ?_
              · have q0 := hS.1; have q1 := hS.2.1; have q2 := hS.2.2
                go_simp
                exact hK.out _ _ _ rfl rfl rfl (Below.refl _ _)
              simp only [List.setIfInBounds_toArray, List.set_cons_zero, List.set_cons_succ]
              refine obs_step (Eq.trans (by simp only [List.getElem?_toArray, List.getElem?_cons_succ, List.getElem?_cons_zero]; exact rfl) rfl) rfl (fun w' hS hV K hK => ?_) ?_
              · have q0 := hS.1; have q1 := hS.2.1; have q2 := hS.2.2
                go_simp
                exact hK.out _ _ _ rfl rfl rfl (Below.refl _ _)
              simp only [List.setIfInBounds_toArray, List.set_cons_zero, List.set_cons_succ]
              refine obs_step (Eq.trans (by simp only [List.getElem?_toArray, List.getElem?_cons_succ, List.getElem?_cons_zero]; exact rfl) rfl) rfl (fun w' hS hV K hK => ?_) ?_
              · have q0 := hS.1; have q1 := hS.2.1; have q2 := hS.2.2
                go_simp
                exact hK.out _ _ _ rfl rfl rfl (Below.refl _ _)
              simp only [List.setIfInBounds_toArray, List.set_cons_zero, List.set_cons_succ]
              refine obs_step (Eq.trans (by simp only [List.getElem?_toArray, List.getElem?_cons_succ, List.getElem?_cons_zero]; exact rfl) rfl) rfl (fun w' hS hV K hK => ?_) ?_
              · have q0 := hS.1; have q1 := hS.2.1; have q2 := hS.2.2
                go_simp
                exact hK.out _ _ _ rfl rfl rfl (Below.refl _ _)
              simp only [List.setIfInBounds_toArray, List.set_cons_zero, List.set_cons_succ]
              refine obs_step (Eq.trans (by simp only [List.getElem?_toArray, List.getElem?_cons_succ, List.getElem?_cons_zero]; exact rfl) rfl) rfl (fun w' hS hV K hK => ?_) ?_
              · have e3 : x 3 = (.slice (some ⟨g, 0, none⟩) n c1) := hV 3 (by decide)
                have e4 : x 4 = (.int .i64 (dn)) := hV 4 (by decide)
                have q0 := hS.1; have q1 := hS.2.1; have q2 := hS.2.2
                go_simp
                exact hK.out _ _ _ rfl rfl rfl (Below.refl _ _)
              simp only [List.setIfInBounds_toArray, List.set_cons_zero, List.set_cons_succ]
              refine obs_step (Eq.trans (by simp only [List.getElem?_toArray, List.getElem?_cons_succ, List.getElem?_cons_zero]; exact rfl) rfl) rfl (fun w' hS hV K hK => ?_) ?_
              · have e3 : x 3 = (.slice (some ⟨g, 0, none⟩) n c1) := hV 3 (by decide)
                have e4 : x 4 = (.int .i64 (dn)) := hV 4 (by decide)
                have e5 : x 5 = (.pointer (some ⟨g, dn, none⟩)) := hV 5 (by decide)
                have q0 := hS.1; have q1 := hS.2.1; have q2 := hS.2.2
                go_simp
                exact hK.out _ _ _ rfl rfl rfl (Below.refl _ _)
              simp only [List.setIfInBounds_toArray, List.set_cons_zero, List.set_cons_succ]
              refine obs_step (Eq.trans (by simp only [List.getElem?_toArray, List.getElem?_cons_succ, List.getElem?_cons_zero]; exact rfl) rfl) rfl (fun w' hS hV K hK => ?_) ?_
              · have q0 := hS.1; have q1 := hS.2.1; have q2 := hS.2.2
                go_simp
                exact hK.out _ _ _ rfl rfl rfl (Below.refl _ _)
              simp only [List.setIfInBounds_toArray, List.set_cons_zero, List.set_cons_succ]
              refine obs_step (Eq.trans (by simp only [List.getElem?_toArray, List.getElem?_cons_succ, List.getElem?_cons_zero]; exact rfl) rfl) rfl (fun w' hS hV K hK => ?_) ?_
              · have q0 := hS.1; have q1 := hS.2.1; have q2 := hS.2.2
                go_simp
                exact hK.out _ _ _ rfl rfl rfl (Below.refl _ _)
              simp only [List.setIfInBounds_toArray, List.set_cons_zero, List.set_cons_succ]
              refine obs_step (Eq.trans (by simp only [List.getElem?_toArray, List.getElem?_cons_succ, List.getElem?_cons_zero]; exact rfl) rfl) rfl (fun w' hS hV K hK => ?_) ?_
              · have q0 := hS.1; have q1 := hS.2.1; have q2 := hS.2.2
                go_simp
                exact hK.out _ _ _ rfl rfl rfl (Below.refl _ _)
              simp only [List.setIfInBounds_toArray, List.set_cons_zero, List.set_cons_succ]
              refine obs_step (Eq.trans (by simp only [List.getElem?_toArray, List.getElem?_cons_succ, List.getElem?_cons_zero]; exact rfl) rfl) rfl (fun w' hS hV K hK => ?_) ?_
              · have e8 : x 8 = (.slice (some ⟨g, 0, none⟩) n c1) := hV 8 (by decide)
                have e9 : x 9 = (.int .i64 (dn)) := hV 9 (by decide)
                have q0 := hS.1; have q1 := hS.2.1; have q2 := hS.2.2
                go_simp
                exact hK.out _ _ _ rfl rfl rfl (Below.refl _ _)
              simp only [List.setIfInBounds_toArray, List.set_cons_zero, List.set_cons_succ]
              refine obs_step (Eq.trans (by simp only [List.getElem?_toArray, List.getElem?_cons_succ, List.getElem?_cons_zero]; exact rfl) rfl) rfl (fun w' hS hV K hK => ?_) ?_
              · have e8 : x 8 = (.slice (some ⟨g, 0, none⟩) n c1) := hV 8 (by decide)
                have e9 : x 9 = (.int .i64 (dn)) := hV 9 (by decide)
                have e10 : x 10 = (.pointer (some ⟨g, dn, none⟩)) := hV 10 (by decide)
                have q0 := hS.1; have q1 := hS.2.1; have q2 := hS.2.2
                go_simp
                exact hK.out _ _ _ rfl rfl rfl (Below.refl _ _)
              simp only [List.setIfInBounds_toArray, List.set_cons_zero, List.set_cons_succ]
              refine obs_step (Eq.trans (by simp only [List.getElem?_toArray, List.getElem?_cons_succ, List.getElem?_cons_zero]; exact rfl) rfl) rfl (fun w' hS hV K hK => ?_) ?_
              · have q0 := hS.1; have q1 := hS.2.1; have q2 := hS.2.2
                go_simp
                exact hK.out _ _ _ rfl rfl rfl (Below.refl _ _)
              simp only [List.setIfInBounds_toArray, List.set_cons_zero, List.set_cons_succ]
              refine obs_step (Eq.trans (by simp only [List.getElem?_toArray, List.getElem?_cons_succ, List.getElem?_cons_zero]; exact rfl) rfl) rfl (fun w' hS hV K hK => ?_) ?_
              · have e8 : x 8 = (.slice (some ⟨g, 0, none⟩) n c1) := hV 8 (by decide)
                have e9 : x 9 = (.int .i64 (dn)) := hV 9 (by decide)
                have e10 : x 10 = (.pointer (some ⟨g, dn, none⟩)) := hV 10 (by decide)
                have e11 : x 11 = (.slice (some ⟨gs, os, none⟩) m cs) := hV 11 (by decide)
                have e12 : x 12 = (.int .i64 (kn)) := hV 12 (by decide)
                have q0 := hS.1; have q1 := hS.2.1; have q2 := hS.2.2
                go_simp
                exact hK.out _ _ _ rfl rfl rfl (Below.refl _ _)
              simp only [List.setIfInBounds_toArray, List.set_cons_zero, List.set_cons_succ]
              refine obs_step (Eq.trans (by simp only [List.getElem?_toArray, List.getElem?_cons_succ, List.getElem?_cons_zero]; exact rfl) rfl) rfl (fun w' hS hV K hK => ?_) ?_
              · have e8 : x 8 = (.slice (some ⟨g, 0, none⟩) n c1) := hV 8 (by decide)
                have e9 : x 9 = (.int .i64 (dn)) := hV 9 (by decide)
                have e10 : x 10 = (.pointer (some ⟨g, dn, none⟩)) := hV 10 (by decide)
                have e11 : x 11 = (.slice (some ⟨gs, os, none⟩) m cs) := hV 11 (by decide)
                have e12 : x 12 = (.int .i64 (kn)) := hV 12 (by decide)
                have e13 : x 13 = (.pointer (some ⟨gs, os + kn, none⟩)) := hV 13 (by decide)
                have q0 := hS.1; have q1 := hS.2.1; have q2 := hS.2.2
                go_simp
                exact hK.out _ _ _ rfl rfl rfl (Below.refl _ _)
              simp only [List.setIfInBounds_toArray, List.set_cons_zero, List.set_cons_succ]
              refine obs_step (Eq.trans (by simp only [List.getElem?_toArray, List.getElem?_cons_succ, List.getElem?_cons_zero]; exact rfl) rfl) rfl (fun w' hS hV K hK => ?_) ?_
              · have e7 : x 7 = (.int .i64 (p)) := hV 7 (by decide)
                have e8 : x 8 = (.slice (some ⟨g, 0, none⟩) n c1) := hV 8 (by decide)
                have e9 : x 9 = (.int .i64 (dn)) := hV 9 (by decide)
                have e10 : x 10 = (.pointer (some ⟨g, dn, none⟩)) := hV 10 (by decide)
                have e11 : x 11 = (.slice (some ⟨gs, os, none⟩) m cs) := hV 11 (by decide)
                have e12 : x 12 = (.int .i64 (kn)) := hV 12 (by decide)
                have e13 : x 13 = (.pointer (some ⟨gs, os + kn, none⟩)) := hV 13 (by decide)
                have e14 : x 14 = (.int .i64 (xe)) := hV 14 (by decide)
                have q0 := hS.1; have q1 := hS.2.1; have q2 := hS.2.2
                go_simp
                refine (inv_any p xe _ hp hp2 hx1.1 hx1.2).mono ?_
                rintro e v1 ⟨rfl, rfl⟩
                exact hK.out _ _ _ rfl rfl rfl (Below.refl _ _)
              simp only [List.setIfInBounds_toArray, List.set_cons_zero, List.set_cons_succ]
              refine obs_step (Eq.trans (by simp only [List.getElem?_toArray, List.getElem?_cons_succ, List.getElem?_cons_zero]; exact rfl) rfl) rfl (fun w' hS hV K hK => ?_) ?_
              · have e2 : x 2 = (.int .i64 (p)) := hV 2 (by decide)
                have e3 : x 3 = (.slice (some ⟨g, 0, none⟩) n c1) := hV 3 (by decide)
                have e4 : x 4 = (.int .i64 (dn)) := hV 4 (by decide)
                have e5 : x 5 = (.pointer (some ⟨g, dn, none⟩)) := hV 5 (by decide)
                have e6 : x 6 = (.slice (some ⟨gs, os, none⟩) m cs) := hV 6 (by decide)
                have e7 : x 7 = (.int .i64 (p)) := hV 7 (by decide)
                have e8 : x 8 = (.slice (some ⟨g, 0, none⟩) n c1) := hV 8 (by decide)
                have e9 : x 9 = (.int .i64 (dn)) := hV 9 (by decide)
                have e10 : x 10 = (.pointer (some ⟨g, dn, none⟩)) := hV 10 (by decide)
                have e11 : x 11 = (.slice (some ⟨gs, os, none⟩) m cs) := hV 11 (by decide)
                have e12 : x 12 = (.int .i64 (kn)) := hV 12 (by decide)
                have e13 : x 13 = (.pointer (some ⟨gs, os + kn, none⟩)) := hV 13 (by decide)
                have e14 : x 14 = (.int .i64 (xe)) := hV 14 (by decide)
                have e15 : x 15 = (.int .i64 (invF p xe)) := hV 15 (by decide)
                have q0 := hS.1; have q1 := hS.2.1; have q2 := hS.2.2
                go_simp
                refine (scaled_any p _ m _ (invF p xe) R _ hp hp2 hm (HRS.out.rd.below hS.2.2) HRJ.out.2 (by omega) (by omega)).mono ?_
                rintro e v1 ⟨A2, c2, rfl, hM⟩
                exact hK.out _ _ _ rfl rfl ⟨_, _, rfl, hM.after hS.2.2⟩ hM.b
              simp only [List.setIfInBounds_toArray, List.set_cons_zero, List.set_cons_succ]
              refine obs_step (Eq.trans (by simp only [List.getElem?_toArray, List.getElem?_cons_succ, List.getElem?_cons_zero]; exact rfl) rfl) rfl (fun w' hS hV K hK => ?_) ?_
              · have e0 : x 0 = (.slice (some ⟨g, 0, none⟩) n c1) := hV 0 (by decide)
                have e1 : x 1 = (.int .i64 (dn)) := hV 1 (by decide)
                have q0 := hS.1; have q1 := hS.2.1; have q2 := hS.2.2
                go_simp
                exact hK.out _ _ _ rfl rfl rfl (Below.refl _ _)
              simp only [List.setIfInBounds_toArray, List.set_cons_zero, List.set_cons_succ]
              refine fun w' hS hV => ?_
              have e0 : x 0 = (.slice (some ⟨g, 0, none⟩) n c1) := hV 0 (by decide)
              have e1 : x 1 = (.int .i64 (dn)) := hV 1 (by decide)
              have e2 : x 2 = (.int .i64 (p)) := hV 2 (by decide)
              have e3 : x 3 = (.slice (some ⟨g, 0, none⟩) n c1) := hV 3 (by decide)
              have e4 : x 4 = (.int .i64 (dn)) := hV 4 (by decide)
              have e5 : x 5 = (.pointer (some ⟨g, dn, none⟩)) := hV 5 (by decide)
              have e6 : x 6 = (.slice (some ⟨gs, os, none⟩) m cs) := hV 6 (by decide)
              have e7 : x 7 = (.int .i64 (p)) := hV 7 (by decide)
              have e8 : x 8 = (.slice (some ⟨g, 0, none⟩) n c1) := hV 8 (by decide)
              have e9 : x 9 = (.int .i64 (dn)) := hV 9 (by decide)
              have e10 : x 10 = (.pointer (some ⟨g, dn, none⟩)) := hV 10 (by decide)
              have e11 : x 11 = (.slice (some ⟨gs, os, none⟩) m cs) := hV 11 (by decide)
              have e12 : x 12 = (.int .i64 (kn)) := hV 12 (by decide)
              have e13 : x 13 = (.pointer (some ⟨gs, os + kn, none⟩)) := hV 13 (by decide)
              have e14 : x 14 = (.int .i64 (xe)) := hV 14 (by decide)
              have e15 : x 15 = (.int .i64 (invF p xe)) := hV 15 (by decide)
              obtain ⟨A16, c16, e16, h16⟩ := hV 16 (by decide)
              have e17 : x 17 = (.pointer (some ⟨g, dn, none⟩)) := hV 17 (by decide)
              simp only [e0, e1, e2, e3, e4, e5, e6, e7, e8, e9, e10, e11, e12, e13, e14, e15, e16, e17]
              clear e0 e1 e2 e3 e4 e5 e6 e7 e8 e9 e10 e11 e12 e13 e14 e15 e16 e17
              obtain ⟨q0, q1, q2⟩ := hS
              have ff := (HM2.out.below q2).frozen_ dn
              refine any_one (j := 18) (by kernel_rfl) (Eq.trans (by simp only [List.getElem?_toArray, List.getElem?_cons_succ, List.getElem?_cons_zero]; exact rfl) rfl) (fun K hK => ?_)
              go_simp
              refine hK.out _ _ (wpAny_done (by kernel_rfl) ?_ _)
              have hM3 := HM2.out.setRow h16 dn
              rw [← HSC.out] at hM3
              clear q0 q1 q2 ff hV hcs2 hce2 fd h16
              obtain ⟨w3, hw3⟩ : ∃ W, W = w'.setCell ⟨g, dn, none⟩ (.slice A16 m c16) := ⟨_, rfl⟩
              rw [← hw3] at hM3 ⊢
              clear hw3 HM2 HRS
              have hM0 : MkII w w3 (some ⟨g, 0, none⟩) n c1 (clearTo p (scaledAt p L kn dn) dn kn 0) := by rw [clearTo_zero]; exact hM3
              obtain ⟨N, hN⟩ : ∃ N, N = scaledAt p L kn dn := ⟨_, rfl⟩
              rw [← hN] at hM0 HTS HNEXT HSCD
              clear hM3 hN HSC
              go_wp2
              go_loopw [86] (fun i w4 => ∃ r : Nat, r ≤ n ∧ i = .int .i64 r ∧ MkII w w4 (some ⟨g, 0, none⟩) n c1 (clearTo p N dn kn r)) (fun i _ => n - (intOf i).toNat)
              case atStart => exact ⟨0, by omega, rfl, hM0⟩
              case round =>
                obtain ⟨r, hr, rfl, hM4⟩ := hrel
                clear hM0
                by_cases hlr : r < n
                · by_cases hrd : r = dn
                  · subst hrd
                    have HM4 := Lib.hid hM4
                    clear hM4
                    go_wp2
                    go_roundw
                    case rel => exact ⟨r + 1, by omega, by go_num, by rw [clearTo_skip]; exact HM4.out⟩
                    case measure => simp [intOf]; omega
                  · have hT4 : Tab p m (clearTo p N dn kn r) := clearTo_tab (by omega) HTS.out.1 dn kn r
                    have hr4 : (clearTo p N dn kn r).getD r [] = N.getD r [] := by rw [clearTo_getD (by rw [HTS.out.2]; exact hlr), if_neg (by omega)]
                    have hd4 : (clearTo p N dn kn r).getD dn [] = N.getD dn [] := by rw [clearTo_getD (by rw [HTS.out.2]; exact hld), if_neg (fun h => h.2 rfl)]
                    obtain ⟨g0, e0, hxr, Ar, cr, hcr, hrr⟩ := hM4.at_ hlr
                    injection e0 with e0; injection e0 with e0 _ _; subst e0
                    obtain ⟨g0, e0, hxd, Ad2, cd2, hcd2, hrd2⟩ := hM4.at_ hld
                    injection e0 with e0; injection e0 with e0 _ _; subst e0
                    have HR1 := Lib.hid (hT4 _ (List.getElem_mem hxr))
                    have HD1 := Lib.hid (hT4 _ (List.getElem_mem hxd))
                    have hl1 := HR1.out.1
                    have hl2 := HD1.out.1
                    rw [getD_of_lt [] hxr] at hr4
                    rw [getD_of_lt [] hxd] at hd4
                    rw [hl1] at hcr hrr
                    rw [hl2] at hcd2 hrd2
                    rw [hr4] at hrr HR1
                    rw [hd4] at hrd2 HD1
                    obtain ⟨gr, or', rfl, hxy, hcy⟩ := hrr.rd.int hlk
                    have hey : ent N r kn = (N.getD r [])[kn] := by unfold ent; rw [getD_of_lt 0 hxy]
                    obtain ⟨y, hy⟩ : ∃ y, y = (N.getD r [])[kn] := ⟨_, rfl⟩
                    have hyb : 0 ≤ y ∧ y < p := hy ▸ HR1.out.2 _ (List.getElem_mem hxy)
                    rw [← hy] at hcy hey
                    have HEY := Lib.hid hey
                    have HM4 := Lib.hid hM4
                    have HRR := Lib.hid hrr
                    have HRD := Lib.hid hrd2
                    clear hy hT4 hr4 hd4 hl1 hl2 hxr hxd hxy hey hM4 hrr hrd2
                    cases hyz : (y != 0)
                    · have hy0 : y = 0 := by simpa using hyz
                      go_wp2
                      go_roundw
                      case rel => exact ⟨r + 1, by omega, by go_num, by rw [clearTo_same (by rw [HTS.out.2]; exact hlr) (by rw [HEY.out]; exact hy0) HR1.out.2]; exact HM4.out⟩
                      case measure => simp [intOf]; omega
                    · have hwy := i64_small (x := -y) (by omega) (by omega)
                      go_wp2
                      refine wp_obs 21 [[], [], [], [], [], [3, 4], [3, 4, 5], [], [], [7, 8], [7, 8, 9], [], [], [11, 12], [11, 12, 13], [], [11, 12, 13, 14, 15], [11, 12, 13, 14, 15, 16], [11, 12, 13, 14, 15, 16, 17], [2, 3, 4, 5, 6, 7, 8, 9, 10, 11, 12, 13, 14, 15, 16, 17, 18], [0, 1], [0, 1, 2, 3, 4, 5, 6, 7, 8, 9, 10, 11, 12, 13, 14, 15, 16, 17, 18, 19, 20]] [VIs (.slice (some ⟨g, 0, none⟩) n c1), VIs (.int .i64 (r)), VIs (.int .i64 (p)), VIs (.slice (some ⟨g, 0, none⟩) n c1), VIs (.int .i64 (r)), VIs (.pointer (some ⟨g, r, none⟩)), VIs (.slice (some ⟨gr, or', none⟩) m cr), VIs (.slice (some ⟨g, 0, none⟩) n c1), VIs (.int .i64 (dn)), VIs (.pointer (some ⟨g, dn, none⟩)), VIs (.slice Ad2 m cd2), VIs (.slice (some ⟨g, 0, none⟩) n c1), VIs (.int .i64 (r)), VIs (.pointer (some ⟨g, r, none⟩)), VIs (.slice (some ⟨gr, or', none⟩) m cr), VIs (.int .i64 (kn)), VIs (.pointer (some ⟨gr, or' + kn, none⟩)), VIs (.int .i64 (y)), VIs (.int .i64 (-y)), VSl wr m (plusL p (N.getD r []) (N.getD dn []) (-y)), VIs (.pointer (some ⟨g, r, none⟩))] (fun w' => w'.cell? ⟨g, r, none⟩ = some (.slice (some ⟨gr, or', none⟩) m cr) ∧ w'.cell? ⟨g, dn, none⟩ = some (.slice Ad2 m cd2) ∧ w'.cell? ⟨gr, or' + kn, none⟩ = some (.int .i64 y) ∧ Below wr.heap.size wr w') (by kernel_rfl) (by kernel_rfl) (fun _ _ h hb => keepR3 h hb (Nat.le_refl _)) (⟨hcr, hcd2, hcy, (Below.refl _ _).drew⟩) (fun x => ?_)
                      refine obs_step (Eq.trans (by simp only [List.getElem?_toArray, List.getElem?_cons_zero]; exact rfl) rfl) rfl (fun w' hS hV K hK => ?_) ?_
                      · have q0 := hS.1; have q1 := hS.2.1; have q2 := hS.2.2.1; have q3 := hS.2.2.2
                        go_simp
                        exact hK.out _ _ _ rfl rfl rfl (Below.refl _ _)
                      simp only [List.setIfInBounds_toArray, List.set_cons_zero, List.set_cons_succ]
                      refine obs_step (Eq.trans (by simp only [List.getElem?_toArray, List.getElem?_cons_succ, List.getElem?_cons_zero]; exact rfl) rfl) rfl (fun w' hS hV K hK => ?_) ?_
                      · have q0 := hS.1; have q1 := hS.2.1; have q2 := hS.2.2.1; have q3 := hS.2.2.2
                        go_simp
                        exact hK.out _ _ _ rfl rfl rfl (Below.refl _ _)
                      simp only [List.setIfInBounds_toArray, List.set_cons_zero, List.set_cons_succ]
                      refine obs_step (Eq.trans (by simp only [List.getElem?_toArray, List.getElem?_cons_succ, List.getElem?_cons_zero]; exact rfl) rfl) rfl (fun w' hS hV K hK => ?_) ?_
                      · have q0 := hS.1; have q1 := hS.2.1; have q2 := hS.2.2.1; have q3 := hS.2.2.2
                        go_simp
                        exact hK.out _ _ _ rfl rfl rfl (Below.refl _ _)
                      simp only [List.setIfInBounds_toArray, List.set_cons_zero, List.set_cons_succ]
                      refine obs_step (Eq.trans (by simp only [List.getElem?_toArray, List.getElem?_cons_succ, List.getElem?_cons_zero]; exact rfl) rfl) rfl (fun w' hS hV K hK => ?_) ?_
                      · have q0 := hS.1; have q1 := hS.2.1; have q2 := hS.2.2.1; have q3 := hS.2.2.2
                        go_simp
                        exact hK.out _ _ _ rfl rfl rfl (Below.refl _ _)
                      simp only [List.setIfInBounds_toArray, List.set_cons_zero, List.set_cons_succ]
                      refine obs_step (Eq.trans (by simp only [List.getElem?_toArray, List.getElem?_cons_succ, List.getElem?_cons_zero]; exact rfl) rfl) rfl (fun w' hS hV K hK => ?_) ?_
                      · have q0 := hS.1; have q1 := hS.2.1; have q2 := hS.2.2.1; have q3 := hS.2.2.2
                        go_simp
                        exact hK.out _ _ _ rfl rfl rfl (Below.refl _ _)
                      simp only [List.setIfInBounds_toArray, List.set_cons_zero, List.set_cons_succ]
                      refine obs_step (Eq.trans (by simp only [List.getElem?_toArray, List.getElem?_cons_succ, List.getElem?_cons_zero]; exact rfl) rfl) rfl (fun w' hS hV K hK => ?_) ?_
                      · have e3 : x 3 = (.slice (some ⟨g, 0, none⟩) n c1) := hV 3 (by decide)
                        have e4 : x 4 = (.int .i64 (r)) := hV 4 (by decide)
                        have q0 := hS.1; have q1 := hS.2.1; have q2 := hS.2.2.1; have q3 := hS.2.2.2
                        go_simp
                        exact hK.out _ _ _ rfl rfl rfl (Below.refl _ _)
                      simp only [List.setIfInBounds_toArray, List.set_cons_zero, List.set_cons_succ]
                      refine obs_step (Eq.trans (by simp only [List.getElem?_toArray, List.getElem?_cons_succ, List.getElem?_cons_zero]; exact rfl) rfl) rfl (fun w' hS hV K hK => ?_) ?_
                      · have e3 : x 3 = (.slice (some ⟨g, 0, none⟩) n c1) := hV 3 (by decide)
                        have e4 : x 4 = (.int .i64 (r)) := hV 4 (by decide)
                        have e5 : x 5 = (.pointer (some ⟨g, r, none⟩)) := hV 5 (by decide)
                        have q0 := hS.1; have q1 := hS.2.1; have q2 := hS.2.2.1; have q3 := hS.2.2.2
                        go_simp
                        exact hK.out _ _ _ rfl rfl rfl (Below.refl _ _)
                      simp only [List.setIfInBounds_toArray, List.set_cons_zero, List.set_cons_succ]
                      refine obs_step (Eq.trans (by simp only [List.getElem?_toArray, List.getElem?_cons_succ, List.getElem?_cons_zero]; exact rfl) rfl) rfl (fun w' hS hV K hK => ?_) ?_
                      · have q0 := hS.1; have q1 := hS.2.1; have q2 := hS.2.2.1; have q3 := hS.2.2.2
                        go_simp
                        exact hK.out _ _ _ rfl rfl rfl (Below.refl _ _)
                      simp only [List.setIfInBounds_toArray, List.set_cons_zero, List.set_cons_succ]
                      refine obs_step (Eq.trans (by simp only [List.getElem?_toArray, List.getElem?_cons_succ, List.getElem?_cons_zero]; exact rfl) rfl) rfl (fun w' hS hV K hK => ?_) ?_
                      · have q0 := hS.1; have q1 := hS.2.1; have q2 := hS.2.2.1; have q3 := hS.2.2.2
                        go_simp
                        exact hK.out _ _ _ rfl rfl rfl (Below.refl _ _)
                      simp only [List.setIfInBounds_toArray, List.set_cons_zero, List.set_cons_succ]
                      refine obs_step (Eq.trans (by simp only [List.getElem?_toArray, List.getElem?_cons_succ, List.getElem?_cons_zero]; exact rfl) rfl) rfl (fun w' hS hV K hK => ?_) ?_
                      · have e7 : x 7 = (.slice (some ⟨g, 0, none⟩) n c1) := hV 7 (by decide)
                        have e8 : x 8 = (.int .i64 (dn)) := hV 8 (by decide)
                        have q0 := hS.1; have q1 := hS.2.1; have q2 := hS.2.2.1; have q3 := hS.2.2.2
                        go_simp
                        exact hK.out _ _ _ rfl rfl rfl (Below.refl _ _)
                      simp only [List.setIfInBounds_toArray, List.set_cons_zero, List.set_cons_succ]
                      refine obs_step (Eq.trans (by simp only [List.getElem?_toArray, List.getElem?_cons_succ, List.getElem?_cons_zero]; exact rfl) rfl) rfl (fun w' hS hV K hK => ?_) ?_
                      · have e7 : x 7 = (.slice (some ⟨g, 0, none⟩) n c1) := hV 7 (by decide)
                        have e8 : x 8 = (.int .i64 (dn)) := hV 8 (by decide)
                        have e9 : x 9 = (.pointer (some ⟨g, dn, none⟩)) := hV 9 (by decide)
                        have q0 := hS.1; have q1 := hS.2.1; have q2 := hS.2.2.1; have q3 := hS.2.2.2
                        go_simp
                        exact hK.out _ _ _ rfl rfl rfl (Below.refl _ _)
                      simp only [List.setIfInBounds_toArray, List.set_cons_zero, List.set_cons_succ]
                      refine obs_step (Eq.trans (by simp only [List.getElem?_toArray, List.getElem?_cons_succ, List.getElem?_cons_zero]; exact rfl) rfl) rfl (fun w' hS hV K hK => ?_) ?_
                      · have q0 := hS.1; have q1 := hS.2.1; have q2 := hS.2.2.1; have q3 := hS.2.2.2
                        go_simp
                        exact hK.out _ _ _ rfl rfl rfl (Below.refl _ _)
                      simp only [List.setIfInBounds_toArray, List.set_cons_zero, List.set_cons_succ]
                      refine obs_step (Eq.trans (by simp only [List.getElem?_toArray, List.getElem?_cons_succ, List.getElem?_cons_zero]; exact rfl) rfl) rfl (fun w' hS hV K hK => ?_) ?_
                      · have q0 := hS.1; have q1 := hS.2.1; have q2 := hS.2.2.1; have q3 := hS.2.2.2
                        go_simp
                        exact hK.out _ _ _ rfl rfl rfl (Below.refl _ _)
                      simp only [List.setIfInBounds_toArray, List.set_cons_zero, List.set_cons_succ]
                      refine obs_step (Eq.trans (by simp only [List.getElem?_toArray, List.getElem?_cons_succ, List.getElem?_cons_zero]; exact rfl) rfl) rfl (fun w' hS hV K hK => ?_) ?_
                      · have e11 : x 11 = (.slice (some ⟨g, 0, none⟩) n c1) := hV 11 (by decide)
                        have e12 : x 12 = (.int .i64 (r)) := hV 12 (by decide)
                        have q0 := hS.1; have q1 := hS.2.1; have q2 := hS.2.2.1; have q3 := hS.2.2.2
                        go_simp
                        exact hK.out _ _ _ rfl rfl rfl (Below.refl _ _)
                      simp only [List.setIfInBounds_toArray, List.set_cons_zero, List.set_cons_succ]
                      refine obs_step (Eq.trans (by simp only [List.getElem?_toArray, List.getElem?_cons_succ, List.getElem?_cons_zero]; exact rfl) rfl) rfl (fun w' hS hV K hK => ?_) ?_
                      · have e11 : x 11 = (.slice (some ⟨g, 0, none⟩) n c1) := hV 11 (by decide)
                        have e12 : x 12 = (.int .i64 (r)) := hV 12 (by decide)
                        have e13 : x 13 = (.pointer (some ⟨g, r, none⟩)) := hV 13 (by decide)
                        have q0 := hS.1; have q1 := hS.2.1; have q2 := hS.2.2.1; have q3 := hS.2.2.2
                        go_simp
                        exact hK.out _ _ _ rfl rfl rfl (Below.refl _ _)
                      simp only [List.setIfInBounds_toArray, List.set_cons_zero, List.set_cons_succ]
                      refine obs_step (Eq.trans (by simp only [List.getElem?_toArray, List.getElem?_cons_succ, List.getElem?_cons_zero]; exact rfl) rfl) rfl (fun w' hS hV K hK => ?_) ?_
                      · have q0 := hS.1; have q1 := hS.2.1; have q2 := hS.2.2.1; have q3 := hS.2.2.2
                        go_simp
                        exact hK.out _ _ _ rfl rfl rfl (Below.refl _ _)
                      simp only [List.setIfInBounds_toArray, List.set_cons_zero, List.set_cons_succ]
                      refine obs_step (Eq.trans (by simp only [List.getElem?_toArray, List.getElem?_cons_succ, List.getElem?_cons_zero]; exact rfl) rfl) rfl (fun w' hS hV K hK => ?_) ?_
                      · have e11 : x 11 = (.slice (some ⟨g, 0, none⟩) n c1) := hV 11 (by decide)
                        have e12 : x 12 = (.int .i64 (r)) := hV 12 (by decide)
                        have e13 : x 13 = (.pointer (some ⟨g, r, none⟩)) := hV 13 (by decide)
                        have e14 : x 14 = (.slice (some ⟨gr, or', none⟩) m cr) := hV 14 (by decide)
                        have e15 : x 15 = (.int .i64 (kn)) := hV 15 (by decide)
                        have q0 := hS.1; have q1 := hS.2.1; have q2 := hS.2.2.1; have q3 := hS.2.2.2
                        go_simp
                        exact hK.out _ _ _ rfl rfl rfl (Below.refl _ _)
                      simp only [List.setIfInBounds_toArray, List.set_cons_zero, List.set_cons_succ]
                      refine obs_step (Eq.trans (by simp only [List.getElem?_toArray, List.getElem?_cons_succ, List.getElem?_cons_zero]; exact rfl) rfl) rfl (fun w' hS hV K hK => ?_) ?_
                      · have e11 : x 11 = (.slice (some ⟨g, 0, none⟩) n c1) := hV 11 (by decide)
                        have e12 : x 12 = (.int .i64 (r)) := hV 12 (by decide)
                        have e13 : x 13 = (.pointer (some ⟨g, r, none⟩)) := hV 13 (by decide)
                        have e14 : x 14 = (.slice (some ⟨gr, or', none⟩) m cr) := hV 14 (by decide)
                        have e15 : x 15 = (.int .i64 (kn)) := hV 15 (by decide)
                        have e16 : x 16 = (.pointer (some ⟨gr, or' + kn, none⟩)) := hV 16 (by decide)
                        have q0 := hS.1; have q1 := hS.2.1; have q2 := hS.2.2.1; have q3 := hS.2.2.2
                        go_simp
                        exact hK.out _ _ _ rfl rfl rfl (Below.refl _ _)
                      simp only [List.setIfInBounds_toArray, List.set_cons_zero, List.set_cons_succ]
                      refine obs_step (Eq.trans (by simp only [List.getElem?_toArray, List.getElem?_cons_succ, List.getElem?_cons_zero]; exact rfl) rfl) rfl (fun w' hS hV K hK => ?_) ?_
                      · have e11 : x 11 = (.slice (some ⟨g, 0, none⟩) n c1) := hV 11 (by decide)
                        have e12 : x 12 = (.int .i64 (r)) := hV 12 (by decide)
                        have e13 : x 13 = (.pointer (some ⟨g, r, none⟩)) := hV 13 (by decide)
                        have e14 : x 14 = (.slice (some ⟨gr, or', none⟩) m cr) := hV 14 (by decide)
                        have e15 : x 15 = (.int .i64 (kn)) := hV 15 (by decide)
                        have e16 : x 16 = (.pointer (some ⟨gr, or' + kn, none⟩)) := hV 16 (by decide)
                        have e17 : x 17 = (.int .i64 (y)) := hV 17 (by decide)
                        have q0 := hS.1; have q1 := hS.2.1; have q2 := hS.2.2.1; have q3 := hS.2.2.2
                        go_simp
                        exact hK.out _ _ _ rfl rfl rfl (Below.refl _ _)
                      simp only [List.setIfInBounds_toArray, List.set_cons_zero, List.set_cons_succ]
                      refine obs_step (Eq.trans (by simp only [List.getElem?_toArray, List.getElem?_cons_succ, List.getElem?_cons_zero]; exact rfl) rfl) rfl (fun w' hS hV K hK => ?_) ?_
                      · have e2 : x 2 = (.int .i64 (p)) := hV 2 (by decide)
                        have e3 : x 3 = (.slice (some ⟨g, 0, none⟩) n c1) := hV 3 (by decide)
                        have e4 : x 4 = (.int .i64 (r)) := hV 4 (by decide)
                        have e5 : x 5 = (.pointer (some ⟨g, r, none⟩)) := hV 5 (by decide)
                        have e6 : x 6 = (.slice (some ⟨gr, or', none⟩) m cr) := hV 6 (by decide)
                        have e7 : x 7 = (.slice (some ⟨g, 0, none⟩) n c1) := hV 7 (by decide)
                        have e8 : x 8 = (.int .i64 (dn)) := hV 8 (by decide)
                        have e9 : x 9 = (.pointer (some ⟨g, dn, none⟩)) := hV 9 (by decide)
                        have e10 : x 10 = (.slice Ad2 m cd2) := hV 10 (by decide)
                        have e11 : x 11 = (.slice (some ⟨g, 0, none⟩) n c1) := hV 11 (by decide)
                        have e12 : x 12 = (.int .i64 (r)) := hV 12 (by decide)
                        have e13 : x 13 = (.pointer (some ⟨g, r, none⟩)) := hV 13 (by decide)
                        have e14 : x 14 = (.slice (some ⟨gr, or', none⟩) m cr) := hV 14 (by decide)
                        have e15 : x 15 = (.int .i64 (kn)) := hV 15 (by decide)
                        have e16 : x 16 = (.pointer (some ⟨gr, or' + kn, none⟩)) := hV 16 (by decide)
                        have e17 : x 17 = (.int .i64 (y)) := hV 17 (by decide)
                        have e18 : x 18 = (.int .i64 (-y)) := hV 18 (by decide)
                        have q0 := hS.1; have q1 := hS.2.1; have q2 := hS.2.2.1; have q3 := hS.2.2.2
                        go_simp
                        refine (plus_any p _ m _ _ m _ (-y) _ _ _ hp hp2 hm (Nat.le_refl _) (HRR.out.rd.below hS.2.2.2) HR1.out.2 (HRD.out.rd.below hS.2.2.2) HD1.out.2 (by omega) (by omega)).mono ?_
                        rintro e v1 ⟨A2, c2, rfl, hM⟩
                        exact hK.out _ _ _ rfl rfl ⟨_, _, rfl, hM.after hS.2.2.2⟩ hM.b
                      simp only [List.setIfInBounds_toArray, List.set_cons_zero, List.set_cons_succ]
                      refine obs_step (Eq.trans (by simp only [List.getElem?_toArray, List.getElem?_cons_succ, List.getElem?_cons_zero]; exact rfl) rfl) rfl (fun w' hS hV K hK => ?_) ?_
                      · have e0 : x 0 = (.slice (some ⟨g, 0, none⟩) n c1) := hV 0 (by decide)
                        have e1 : x 1 = (.int .i64 (r)) := hV 1 (by decide)
                        have q0 := hS.1; have q1 := hS.2.1; have q2 := hS.2.2.1; have q3 := hS.2.2.2
                        go_simp
                        exact hK.out _ _ _ rfl rfl rfl (Below.refl _ _)
                      simp only [List.setIfInBounds_toArray, List.set_cons_zero, List.set_cons_succ]
                      refine fun w' hS hV => ?_
                      have e0 : x 0 = (.slice (some ⟨g, 0, none⟩) n c1) := hV 0 (by decide)
                      have e1 : x 1 = (.int .i64 (r)) := hV 1 (by decide)
                      have e2 : x 2 = (.int .i64 (p)) := hV 2 (by decide)
                      have e3 : x 3 = (.slice (some ⟨g, 0, none⟩) n c1) := hV 3 (by decide)
                      have e4 : x 4 = (.int .i64 (r)) := hV 4 (by decide)
                      have e5 : x 5 = (.pointer (some ⟨g, r, none⟩)) := hV 5 (by decide)
                      have e6 : x 6 = (.slice (some ⟨gr, or', none⟩) m cr) := hV 6 (by decide)
                      have e7 : x 7 = (.slice (some ⟨g, 0, none⟩) n c1) := hV 7 (by decide)
                      have e8 : x 8 = (.int .i64 (dn)) := hV 8 (by decide)
                      have e9 : x 9 = (.pointer (some ⟨g, dn, none⟩)) := hV 9 (by decide)
                      have e10 : x 10 = (.slice Ad2 m cd2) := hV 10 (by decide)
                      have e11 : x 11 = (.slice (some ⟨g, 0, none⟩) n c1) := hV 11 (by decide)
                      have e12 : x 12 = (.int .i64 (r)) := hV 12 (by decide)
                      have e13 : x 13 = (.pointer (some ⟨g, r, none⟩)) := hV 13 (by decide)
                      have e14 : x 14 = (.slice (some ⟨gr, or', none⟩) m cr) := hV 14 (by decide)
                      have e15 : x 15 = (.int .i64 (kn)) := hV 15 (by decide)
                      have e16 : x 16 = (.pointer (some ⟨gr, or' + kn, none⟩)) := hV 16 (by decide)
                      have e17 : x 17 = (.int .i64 (y)) := hV 17 (by decide)
                      have e18 : x 18 = (.int .i64 (-y)) := hV 18 (by decide)
                      obtain ⟨A19, c19, e19, h19⟩ := hV 19 (by decide)
                      have e20 : x 20 = (.pointer (some ⟨g, r, none⟩)) := hV 20 (by decide)
                      simp only [e0, e1, e2, e3, e4, e5, e6, e7, e8, e9, e10, e11, e12, e13, e14, e15, e16, e17, e18, e19, e20]
                      clear e0 e1 e2 e3 e4 e5 e6 e7 e8 e9 e10 e11 e12 e13 e14 e15 e16 e17 e18 e19 e20
                      obtain ⟨q0, q1, q2, q3⟩ := hS
                      have ff := (HM4.out.below q3).frozen_ r
                      refine any_one (j := 21) (by kernel_rfl) (Eq.trans (by simp only [List.getElem?_toArray, List.getElem?_cons_succ, List.getElem?_cons_zero]; exact rfl) rfl) (fun K hK => ?_)
                      go_simp
                      refine hK.out _ _ (wpAny_done (by kernel_rfl) ?_ _)
                      have hM5 := HM4.out.setRow h19 r
                      have hM6 : MkII w (w'.setCell ⟨g, r, none⟩ (.slice A19 m c19)) (some ⟨g, 0, none⟩) n c1 (clearTo p N dn kn (r + 1)) := by
                        rw [clearTo_succ p N dn kn r (by rw [HTS.out.2]; exact hlr) hrd, HEY.out]; exact hM5
                      clear q0 q1 q2 q3 ff hM5 h19
                      go_wp2
                      go_roundw
                      case rel => exact ⟨r + 1, by omega, by go_num, hM6⟩
                      case measure => simp [intOf]; omega
                · obtain rfl : r = n := by omega
                  have HM4 := Lib.hid hM4
                  clear hM4
                  go_wp2
                  go_roundw
                  case rel => exact ⟨dn + 1, kn + 1, by go_num, by go_num, by omega, by rw [HNEXT.out], by rw [HNEXT.out]; exact HM4.out⟩
                  case measure => simp [intOf]; omega
            · have hx0' : xe = 0 := by simpa using hz
              go_wp2
              go_round
              case rel => exact ⟨j + 1, by omega, by omega, by go_num, Lib.hid (by rw [← hj3.out, HPV.out, if_pos (by rw [HE.out]; exact hx0')])⟩
              case measure => simp [intOf]; omega
          · obtain rfl : j = n := by omega
            have HVP : Hid (pivOf L kn dn = j) := Lib.hid (by rw [← hj3.out, Nat.sub_self]; rfl)
            have HNEXT : Hid (basisTo p M (kn + 1) = (L, dn)) := Lib.hid (by
              rw [HSUC.out]; unfold stepB; rw [if_pos (by simp only; rw [HVP.out, HL1.out])])
            go_wp2
            go_roundw
            case rel => exact ⟨dn, kn + 1, rfl, by go_num, by omega, by rw [HNEXT.out], by rw [HNEXT.out]; exact HM.out⟩
            case measure => simp [intOf]; omega
      · have HBE : Hid (basisL p M = L.take dn ∧ (L.take dn).length = dn) := Lib.hid ⟨by
          by_cases hk2 : kn = m
          · exact HEND.out hk2
          · exact HFULL.out (by omega), by rw [List.length_take, HL1.out]; omega⟩
        by_cases hk3 : kn < m
        all_goals go_wp2
        all_goals
          go_ret
          rw [HBE.out.1, HBE.out.2]
          exact ⟨_, _, rfl, HM.out.cut hd1⟩
  · obtain rfl : n = 0 := by omega
    obtain rfl : M = [] := List.eq_nil_of_length_eq_zero hML
    clear hT HT
    have HBN := Lib.hid (basisL_nil p)
    go_enter Tryz.func324, Tryz.ntmps324
    go_wp2_with fail
    refine hclone.mono ?_
    rintro e w1 ⟨A1, c1, rfl, hM1⟩
    clear hclone
    go_wp2
    go_loopw [6, 7] (fun d q wr => d = .int .i64 0 ∧ q = .int .i64 0 ∧ wr = w1) (fun _ _ _ => 0)
    case atStart => exact ⟨rfl, rfl, rfl⟩
    case round =>
      obtain ⟨rfl, rfl, rfl⟩ := hrel
      rcases hM1 with ⟨rows, hm1, hn1⟩
      have hcap := hm1.2.cap
      rcases hm1.2.form with ⟨rfl, _⟩ | ⟨g, rfl, _, _⟩
      all_goals
        go_wp2
        go_ret
        rw [HBN.out]
        exact ⟨_, _, rfl, rows, hm1, hn1⟩
end Go.Proofs.YtggigolkncckoaaGreat
namespace Go.Proofs.YtggigolkncckoaaGreat
open Go.RowKit Go.Maps
/-- The map from the places of the firsts to the rows, of the first j rows. -/
structure Places {H : Type} (B : List (List Int)) (j : Nat) (D : DataW H) : Prop where
  map : IsMap D
  has : ∀ k : Nat, Maps.has D (.int .i64 k) = true ↔ ∃ i, i < j ∧ ld B i = k
  only : ∀ z : Lit, Maps.has D z = true → ∃ k : Nat, z = .int .i64 k
  val : ∀ i, i < j → ∀ zd, D.atKey (.int .i64 (ld B i)) zd = .lit (.int .i64 i)
theorem Places.start {H : Type} (B : List (List Int)) : Places B 0 (.map [] : DataW H) :=
  ⟨isMap_empty, fun k => ⟨fun h => by simp [has_eq] at h, fun ⟨i, hi, _⟩ => absurd hi (by omega)⟩, fun z h => by simp [has_eq] at h, fun i hi => absurd hi (by omega)⟩
theorem lit_ne {a b : Int} (h : a ≠ b) : Lit.int .i64 a ≠ Lit.int .i64 b := fun e => h (by injection e)
theorem Places.step {H : Type} {n : Nat} {B : List (List Int)} (hR : Red n B) {j : Nat} {D : DataW H} (h : Places B j D) (hj : j < B.length) : Places B (j + 1) (D.put (.int .i64 (ld B j)) (.lit (.int .i64 j))) := by
  refine ⟨h.map.put _ _, fun k => ?_, fun z hz => ?_, fun i hi zd => ?_⟩
  · by_cases hk : k = ld B j
    · subst hk
      exact ⟨fun _ => ⟨j, by omega, rfl⟩, fun _ => has_put_same h.map (show WideAt.IsKeyLit (.int .i64 (ld B j)) from trivial) _⟩
    · rw [has_put_other (lit_ne (by omega)), h.has k]
      constructor
      · rintro ⟨i, hi, e⟩; exact ⟨i, by omega, e⟩
      · rintro ⟨i, hi, e⟩
        refine ⟨i, ?_, e⟩
        by_cases hij : i = j
        · subst hij; exact absurd e.symm hk
        · omega
  · by_cases hk : z = .int .i64 (ld B j)
    · exact ⟨_, hk⟩
    · rw [has_put_other hk] at hz
      exact h.only z hz
  · by_cases hij : i = j
    · subst hij
      exact atKey_put_same h.map (show WideAt.IsKeyLit (.int .i64 (ld B i)) from trivial) _ _
    · rw [atKey_put_other (lit_ne (fun e => hij (hR.inj (by omega) hj (by omega))))]
      exact h.val i (by omega) zd
theorem Places.isLd {H : Type} {B : List (List Int)} {D : DataW H} (h : Places B B.length D) (k : Nat) : Maps.has D (.int .i64 k) = isLd B k := by
  cases hh : Maps.has D (.int .i64 k) with
  | true => exact (isLd_iff.2 ((h.has k).1 hh)).symm
  | false =>
    cases hi : Proofs.YtggigolkncckoaaGreat.isLd B k with
    | false => rfl
    | true => rw [(h.has k).2 (isLd_iff.1 hi)] at hh; cases hh
theorem ownsMap_below {H : Type} {P : Program} {k : TypeId} {R : Value → Option (DataW H × List MemPlace)} {w w' : World} {b n X : Nat} {D : DataW H} (h : w.ownsMap P k R b n D) (hb : Below X w w') (hX : b < X) : w'.ownsMap P k R b n D := by
  obtain ⟨es, clock, e, r⟩ := h
  exact ⟨es, clock, (hb.block b hX).trans e, r⟩
theorem below_grown_of {w w' : World} {row : Option Nat} {X : Nat} {a : World} (h : Below X a w) (hg : w.grownBy w' row) (hX : X ≤ w.heap.size) (hr : ∀ k, row = some k → X ≤ k) : Below X a w' := h.grown hg hX (fun k hk => hr k hk)
theorem keyedInt : Keyed Tryz.prog 3 := int_keyed Tryz.underlying3
theorem sameKey_int (a b : Int) : (Lit.int .i64 a).sameKey (.int .i64 b) = (a == b) := by
  rw [Bool.eq_iff_iff]
  simp [Lit.sameKey]
theorem zero_int (w : World) : (zeroValue 3).run Tryz.prog w = .ok (.int .i64 0) w := by kernel_rfl
set_option maxHeartbeats 6400000 in
set_option maxRecDepth 8000 in
theorem kernel_any (p : Int) (A : Option Addr) (r0 c : Nat) (M : List (List Int)) (n : Nat) (w : World) (HP : isP p = true) (hr0 : r0 ≤ 65536) (hn : n ≤ 65536) (ha : RdII w A r0 M) (hT : Tab p n M) :
    Calls Tryz.prog 213 #[.int .i64 p, .slice A r0 c, .int .i64 n] w fun e w' => ∃ A' c', e = .returned (.slice A' (kernL p M n).length c') ∧ MkII w w' A' (kernL p M n).length c' (kernL p M n) := by
  obtain ⟨hp3, hp2⟩ := isP_ge HP
  have hp : 2 ≤ p := by omega
  have hbas := basis_any p A r0 c M n w HP hr0 hn ha hT
  have hred := basisL_red HP M hT
  have htab := basisL_tab (p := p) (by omega) M hT
  have HKL : Hid (kernL p M n = basisL p (freeTo p (basisL p M) n n)) := Lib.hid rfl
  have hdl := hred.len
  obtain ⟨B, hB⟩ : ∃ B, B = basisL p M := ⟨_, rfl⟩
  rw [← hB] at hbas hred htab hdl HKL
  have HRED := Lib.hid hred
  have HTAB := Lib.hid htab
  have HP' := Lib.hid HP
  obtain ⟨d, hd⟩ : ∃ d, d = B.length := ⟨_, rfl⟩
  rw [← hd] at hbas hdl
  have HD := Lib.hid hd
  clear hB hT ha hred htab HP hd
  have hmm := @run_makeMap Tryz.prog
  go_enter Tryz.func213, Tryz.ntmps213
  go_wp2_with fail
  refine hbas.mono ?_
  rintro e w1 ⟨A1, c1, rfl, hM1⟩
  clear hbas
  go_wp2
  obtain ⟨b, hb⟩ : ∃ b, b = w1.heap.size := ⟨_, rfl⟩
  obtain ⟨w2, hw2⟩ : ∃ W, W = w1.alloc (.map #[] 0) := ⟨_, rfl⟩
  have hown0 : w2.ownsMap (H := Unit) Tryz.prog 3 (plainElem Tryz.prog 3) b 0 (.map []) := by rw [hw2, hb]; exact World.ownsMap_made _ _ _ _
  have hB0 : Below b w1 w2 := by rw [hw2, hb]; exact (Below.refl _ _).alloc (Nat.le_refl _) _
  have hsz2 : w2.heap.size = b + 1 := by rw [hw2, hb]; simp
  have hbsz : b ≤ w2.heap.size := by omega
  rw [← hw2]
  try rw [← hb]
  clear hw2 hmm
  have HM1 := Lib.hid hM1
  have HBB := Lib.hid hb
  clear hM1 hb
  go_loopw [9, 10, 24] (fun _ _ i wr => ∃ (j : Nat) (D : DataW Unit), j ≤ d ∧ i = .int .i64 j ∧ wr.ownsMap Tryz.prog 3 (plainElem Tryz.prog 3) b j D ∧ Hid (Places B j D) ∧ Below b w1 wr ∧ b < wr.heap.size) (fun _ _ i _ => d - (intOf i).toNat)
  case atStart => exact ⟨0, _, by omega, rfl, hown0, Lib.hid (Places.start B), hB0, by omega⟩
  case round =>
    obtain ⟨j, D, hj, rfl, hown, hpl, hBl, hbl⟩ := hrel
    clear hown0 hB0 hsz2 hbsz
    by_cases hlj : j < d
    · obtain ⟨g, o, rfl, hxj, Aj, cj, hcj, hrj, -⟩ := (HM1.out.rd.below (by rw [← HBB.out]; exact hBl)).at_ hlj
      have HRJ := Lib.hid (HTAB.out B[j] (List.getElem_mem hxj))
      have hl := HRJ.out.1
      rw [hl] at hcj hrj
      have HLD : Hid (leadL B[j] = ld B j) := Lib.hid (by unfold ld; rw [getD_of_lt [] hxj])
      have hld := HRED.out.lt j hxj
      have hlead := fun w' (h : Rd w' Aj n (ints B[j])) => lead_any Aj n cj B[j] w' (by omega) h
      rw [HLD.out] at hlead
      have HPL : Hid (Places B (j + 1) (D.put (.int .i64 (ld B j)) (.lit (.int .i64 j)))) := Lib.hid (hpl.out.step HRED.out hxj)
      obtain ⟨l, hl'⟩ : ∃ l, l = ld B j := ⟨_, rfl⟩
      rw [← hl'] at hlead HPL hld
      clear hl hl' HLD
      go_wp2_with (first
        | (go_at_call 243; refine (hlead _ hrj).mono ?_; rintro e w' ⟨rfl, rfl⟩)
        | (at_mapUpdate; refine wpList_mapUpdate_own _ rfl _ _ _ 158 rfl 3 3 keyedInt Tryz.underlying158 _ b j _ rfl hown (by unfold maxLen; omega) _ _ _ rfl rfl (keyOf_int_mk Tryz.underlying3 (WalkArith.wf_i64 (by omega))) _ [] (plainElem_int Tryz.underlying3 (WalkArith.wf_i64 (by omega))) ?_; intro w3 hown3 hgrow3))
      go_roundw
      case rel => exact ⟨j + 1, _, by omega, by go_num, hown3, HPL, below_grown_of hBl hgrow3 (by omega) (fun k hk => by injection hk with hk; omega), by have := hgrow3.size; omega⟩
      case measure => simp [intOf]; omega
    · obtain rfl : j = d := by omega
      have HPL : Hid (Places B B.length D) := Lib.hid (by rw [← HD.out]; exact hpl.out)
      have hM0 : MkII wr (wr.alloc (.cells #[] 24)) (some ⟨wr.heap.size, 0, none⟩) 0 0 (freeTo p B n 0) := MkII.empty (Below.refl _ _)
      obtain ⟨wb, hwb⟩ : ∃ W, W = wr := ⟨_, rfl⟩
      rw [← hwb] at hM0 hown hBl hbl ⊢
      clear hwb hpl
      have hmk := make_i (P := Tryz.prog) 24 2 Tryz.underlying24 info_i n (by omega)
      go_wp2
      obtain ⟨w4, hw4⟩ : ∃ W, W = wb.alloc (.cells #[] 24) := ⟨_, rfl⟩
      rw [← hw4] at hM0 ⊢
      clear hw4
      go_loopw [11, 36] (fun out i wr => ∃ (f q : Nat) (A' : Option Addr) (c' : Nat), f ≤ n ∧ q ≤ f ∧ i = .int .i64 f ∧ out = .slice A' q c' ∧ MkII wb wr A' q c' (freeTo p B n f)) (fun _ i _ => n - (intOf i).toNat)
      case atStart => exact ⟨0, 0, _, _, by omega, by omega, rfl, rfl, hM0⟩
      case round =>
        obtain ⟨f, q, A', c', hf, hq, rfl, rfl, hM⟩ := hrel
        clear hM0
        obtain ⟨wo, rfl⟩ : ∃ W, W = wr := ⟨_, rfl⟩
        have hsz := hM.b.size
        have hownO := ownsMap_below hown hM.b hbl
        have hisl := HPL.out.isLd f
        have HM := Lib.hid hM
        clear hM
        by_cases hlf : f < n
        · cases hlb : isLd B f
          · rw [hlb] at hisl
            have HIS := Lib.hid hisl
            have hm1 := Mk.made (E := 2) (n := n) (z := .int .i64 0) (Below.refl wo.heap.size wo) (by simp only [maxLen]; omega)
            rw [ints_replicate] at hm1
            obtain ⟨u1, hc1⟩ := hm1.2.cellI hlf
            have hf1 := hm1.2.frozen_ f
            have hm2 := (hm1.set f (.int .i64 1)).1
            rw [ints_set, World.setCell_alloc_at _ _ _ _ _ rfl] at hm2
            have HM2 := Lib.hid hm2
            have HOWN := Lib.hid (ownsMap_below hown (HM.out.b.trans (hm2.b.mono HM.out.b.size)) hbl)
            clear hm1 hm2 hisl
            go_wp2_with (first
              | (at_lookup; refine wpList_lookup_own_ok_int _ rfl _ _ 158 rfl 3 3 .i64 keyedInt Tryz.underlying158 Tryz.underlying3 (zero_int _) b j D rfl hownO _ _ rfl (keyOf_int_mk Tryz.underlying3 (WalkArith.wf_i64 (by omega))) ?_; intro cv hat hwc; rw [HIS.out]; clear hat hwc)
              | (at_range; refine wpList_range_own _ rfl _ 158 rfl 3 3 keyedInt Tryz.underlying158 _ b j D rfl HOWN.out ?_; intro w0 hrg0 hg0 hs0))
            go_frame
            have e1 : w0.heap.size = wo.heap.size + 1 + 1 := by rw [hs0]; simp
            rw [show ∀ o : Obj, (wo.alloc o).heap.size = wo.heap.size + 1 from fun o => by simp] at hrg0 ⊢
            have hm3 : MkI wo w0 (some ⟨wo.heap.size, 0, none⟩) n n (unitRow n f) := ⟨HM2.out.1.grown hg0 HM2.out.1.size (fun k hk => by cases hk), HM2.out.2.grown hg0 (.inr (by simp [Value.ownBlock]))⟩
            clear hg0 hs0 HM2 HOWN hc1 hf1 hownO
            go_loopw [16] (fun _ wr => ∃ (left : Lit → Bool) (cnt : Nat), wr.ranges Tryz.prog 3 (plainElem Tryz.prog 3) b (wo.heap.size + 1) j D left cnt ∧ MkI wo wr (some ⟨wo.heap.size, 0, none⟩) n n (freePart p B n f (fun k => left (.int .i64 k))) ∧ Hid (∀ z, left z = true → Maps.has D z = true)) (fun _ wr => wr.rangeLeft b (wo.heap.size + 1))
            case atStart => exact ⟨_, _, hrg0, by rw [freePart_start p B n f hlf _ (fun k _ hk => by rw [HPL.out.isLd]; exact hk)]; exact hm3, Lib.hid (fun _ h => h)⟩
            case round =>
              obtain ⟨left, cnt, hrg, hmv, hsub⟩ := hrel
              clear hrg0 hm3 e1
              go_wp2_with (at_next; refine wpList_next_ranges_ii _ rfl _ rfl 3 3 .i64 .i64 keyedInt Tryz.underlying3 Tryz.underlying3 b (wo.heap.size + 1) j _ _ _ rfl hrg ?_ ?_)
              · intro hc0 hl0
                have hfin : freePart p B n f (fun k => left (.int .i64 k)) = freeRow p B n f := freePart_congr p B n f (fun k _ => hl0 _)
                rw [hfin] at hmv
                have HMV := Lib.hid hmv
                clear hmv hfin hl0
                go_wp2_with (at_builtin; refine wpList_appRow wb wo _ rfl _ _ rfl A' q c' _ _ n n _ HM.out HMV.out (by omega) rfl ?_ ?_; (go_simp); intro A6 c6 w6 hM6)
                go_roundw
                case rel => exact ⟨f + 1, q + 1, A6, c6, by omega, by omega, by go_num, rfl, by rw [freeTo_take hlb]; exact hM6⟩
                case measure => simp [intOf]; omega
              · intro x cv w7 cnt1 hwx hwc hlx hat hrg1 hlt hg1 hs1 hen
                obtain ⟨kx, hkx⟩ := HPL.out.only _ (hsub.out _ hlx)
                obtain ⟨i, hi, hik⟩ := (HPL.out.has kx).1 (by rw [← hkx]; exact hsub.out _ hlx)
                have hxi : x = ((ld B i : Nat) : Int) := by injection hkx with _ hkx; rw [hkx, hik]
                have hcv : cv = (i : Int) := by
                  have h1 := HPL.out.val i hi (.lit (.int .i64 0))
                  have h2 := hat (.lit (.int .i64 0))
                  rw [hxi, h1] at h2
                  injection h2 with h2
                  injection h2 with _ h2
                  exact h2.symm
                have hb7 : Below w1.heap.size w1 w7 := by
                  have h1 : Below b wb wo := HM.out.b.mono (by omega)
                  have h2 : Below b wo wr := hmv.b.mono (by omega)
                  have h3 := ((hBl.trans h1).trans h2).grown hg1 (by have := hmv.b.size; omega) (fun k hk => by injection hk with hk; omega)
                  rw [← HBB.out]; exact h3
                have hmv7 : MkI wo w7 (some ⟨wo.heap.size, 0, none⟩) n n (freePart p B n f (fun k => left (.int .i64 k))) := ⟨hmv.1.grown hg1 hmv.1.size (fun k hk => by injection hk with hk; omega), hmv.2.grown hg1 (.inr (by simp [Value.ownBlock]))⟩
                obtain ⟨g, o, rfl, hxl, Ai, ci, hci, hri, -⟩ := (HM1.out.rd.below hb7).at_ (show i < j by rw [HD.out]; exact hi)
                have HRI := Lib.hid (HTAB.out B[i] (List.getElem_mem hxl))
                have hl := HRI.out.1
                rw [hl] at hci hri
                obtain ⟨gi, oi, rfl, hxe, hce⟩ := hri.int hlf
                have HE : Hid (ent B i f = B[i][f]) := Lib.hid (ent_at' hxl hxe)
                obtain ⟨y, hy⟩ : ∃ y, y = B[i][f] := ⟨_, rfl⟩
                have hyb : 0 ≤ y ∧ y < p := hy ▸ HRI.out.2 _ (List.getElem_mem hxe)
                rw [← hy] at hce HE
                have hld := HRED.out.lt i hi
                have hij : i < j := by rw [HD.out]; exact hi
                obtain ⟨hoc, hof⟩ := mkI_at hmv7 hld
                have HSET := Lib.hid (hmv7.set (ld B i) (.int .i64 ((-y) % p)))
                have HST : Hid ((freePart p B n f (fun k => left (.int .i64 k))).set (ld B i) ((-y) % p) = freePart p B n f (fun k => left (.int .i64 k) && !(k == ld B i))) := Lib.hid (by rw [← HE.out]; exact freePart_step HRED.out hi hlb _)
                have hmb := emod_small (-y) p (by omega)
                have HRG := Lib.hid hrg
                have HRG1 := Lib.hid hrg1
                have HSUB := Lib.hid hsub
                subst hxi
                subst hcv
                have hwy := i64_small (x := -y) (by omega) (by omega)
                obtain ⟨l, hl'⟩ : ∃ l, l = ld B i := ⟨_, rfl⟩
                rw [← hl'] at hoc hof HSET HST HRG1 hen hld ⊢
                clear hl hl' hy hri HRI hxl hxe hat hkx hik hlx hwx hwc hmv7 hb7 hmv hsub hrg hrg1 hg1 hs1
                go_wp2_with (go_at_call 200; refine (num_any p (-y) _ (by omega) hp2 (by omega) (by omega)).mono ?_; rintro e w' ⟨rfl, rfl⟩)
                go_roundw
                case rel =>
                  have hs := HSET.out.1
                  rw [ints_set, HST.out] at hs
                  refine ⟨_, cnt1, HRG1.out.kept HSET.out.2 (fun e => by have := Option.some.inj e; omega) (fun e => by have := Option.some.inj e; omega), ?_, Lib.hid (fun z hz => HSUB.out.out z (by simp only [Bool.and_eq_true] at hz; exact hz.1))⟩
                  refine (freePart_congr p B n f (fun k _ => ?_)) ▸ hs
                  show (left (.int .i64 k) && !(k == l)) = (left (.int .i64 k) && !(Lit.int .i64 (k : Int)).sameKey (.int .i64 (l : Int)))
                  have e : (k == l) = ((k : Int) == (l : Int)) := by
                    rw [Bool.eq_iff_iff, beq_iff_eq, beq_iff_eq]
                    constructor <;> intro h <;> omega
                  rw [sameKey_int, e]
                case measure => rw [(HRG1.out.kept HSET.out.2 (fun e => by have := Option.some.inj e; omega) (fun e => by have := Option.some.inj e; omega)).left_eq, HRG.out.left_eq]; exact hlt
          · rw [hlb] at hisl
            have HIS := Lib.hid hisl
            clear hisl
            go_wp2_with (at_lookup; refine wpList_lookup_own_ok_int _ rfl _ _ 158 rfl 3 3 .i64 keyedInt Tryz.underlying158 Tryz.underlying3 (zero_int _) b j D rfl hownO _ _ rfl (keyOf_int_mk Tryz.underlying3 (WalkArith.wf_i64 (by omega))) ?_; intro cv hat hwc; rw [HIS.out]; clear hat hwc)
            go_roundw
            case rel => exact ⟨f + 1, q, A', c', by omega, by omega, by go_num, rfl, by rw [freeTo_skip hlb]; exact HM.out⟩
            case measure => simp [intOf]; omega
        · obtain rfl : f = n := by omega
          have hlast := basis_any p A' q c' (freeTo p B f f) f wo HP'.out (by omega) hn HM.out.rd (freeTo_tab hp B f f)
          have hbw : Below w.heap.size w wo := by
            have h1 : Below w1.heap.size w1 wb := HBB.out ▸ hBl
            exact (HM1.out.b.trans (h1.mono HM1.out.b.size)).trans (HM.out.b.mono (by have := HM1.out.b.size; have := h1.size; omega))
          go_wp2_with fail
          refine hlast.mono ?_
          rintro e w5 ⟨A5, c5, rfl, hM5⟩
          go_wp2
          go_ret
          rw [HKL.out]
          exact ⟨_, _, rfl, hM5.after hbw⟩
end Go.Proofs.YtggigolkncckoaaGreat
namespace Go.Proofs.YtggigolkncckoaaGreat
open Go.RowKit
set_option maxHeartbeats 6400000 in
set_option maxRecDepth 8000 in
theorem l02Basis_any (p : Int) (A : Option Addr) (n c : Nat) (M : List (List Int)) (m : Nat) (w : World) (HP : isP p = true) (hn : n ≤ 65536) (hm : m ≤ 65536) (ha : RdII w A n M) (hT : Tab p m M) :
    Calls Tryz.prog 220 #[.int .i64 p, .slice A n c] w fun e w' => ∃ A' c', e = .returned (.slice A' (basisL p M).length c') ∧ MkII w w' A' (basisL p M).length c' (basisL p M) := by
  have hML := ha.len
  obtain ⟨hp3, hp2⟩ := isP_ge HP
  have hp : 2 ≤ p := by omega
  have hclone := l01Own2_any p A n c M m w hn hm ha hT
  have HT := Lib.hid hT
  have HP' := Lib.hid HP
  by_cases h0 : 0 < n
  · have HBL : Hid (basisL p M = (basisTo p M m).1.take (basisTo p M m).2) := Lib.hid (by unfold basisL; rw [row0_len hT (by omega)])
    have HINV : Hid (∀ k, Tab p m (basisTo p M k).1 ∧ (basisTo p M k).1.length = n ∧ (basisTo p M k).2 ≤ n) := Lib.hid (fun k => by
      have := basisTo_inv (p := p) (by omega) M hT k
      rw [hML] at this
      exact this)
    clear hT HP hML ha
    go_enter Tryz.func220, Tryz.ntmps220
    go_wp2_with fail
    refine hclone.mono ?_
    rintro e w1 ⟨A1, c1, rfl, hM1⟩
    clear hclone
    obtain ⟨g, rfl, -⟩ := hM1.at_ h0
    go_wp2
    go_loopw [6, 7] (fun d q wr => ∃ dn kn : Nat, d = .int .i64 dn ∧ q = .int .i64 kn ∧ kn ≤ m ∧ dn = (basisTo p M kn).2 ∧ MkII w wr (some ⟨g, 0, none⟩) n c1 (basisTo p M kn).1) (fun _ q _ => m - (intOf q).toNat)
    case atStart => exact ⟨0, 0, rfl, rfl, by omega, rfl, hM1⟩
    case round =>
      obtain ⟨dn, kn, rfl, rfl, hkm, hdn, hM⟩ := hrel
      clear hM1
      obtain ⟨hT1, hl1, hd1⟩ := HINV.out kn
      rw [← hdn] at hd1
      have HSUC : Hid (basisTo p M (kn + 1) = stepB p kn ((basisTo p M kn).1, dn)) := Lib.hid (by rw [hdn]; rfl)
      have HFULL : Hid (dn = n → basisL p M = (basisTo p M kn).1.take dn) := Lib.hid (fun h => by
        rw [HBL.out, basisTo_full p M kn m hkm (by rw [← hdn, hl1]; exact h), ← hdn])
      have HEND : Hid (kn = m → basisL p M = (basisTo p M kn).1.take dn) := Lib.hid (fun h => by rw [HBL.out, ← h, ← hdn])
      obtain ⟨L, hL⟩ : ∃ L, L = (basisTo p M kn).1 := ⟨_, rfl⟩
      rw [← hL] at hM hT1 hl1 HSUC HFULL HEND
      clear hL hdn
      have HT1 := Lib.hid hT1
      have HL1 := Lib.hid hl1
      have HM := Lib.hid hM
      have hcap : n ≤ c1 := by obtain ⟨rows, hm', _⟩ := hM; exact hm'.2.cap
      obtain ⟨g0, e0, hx0, A0, c0, hc0, -⟩ := hM.at_ h0
      injection e0 with e0; injection e0 with e0 _ _; subst e0
      have hl0 : L[0].length = m := (HT1.out L[0] (List.getElem_mem hx0)).1
      rw [hl0] at hc0
      clear hl0 hT1 hl1 hM
      by_cases hlk : kn < m
      · skip
        go_wp2
        go_loop [8] (fun i => ∃ j : Nat, dn ≤ j ∧ j ≤ n ∧ i = .int .i64 j ∧ Hid (piv L kn (n - j) j = pivOf L kn dn)) (fun i => n - (intOf i).toNat)
        case atStart => exact ⟨dn, by omega, by omega, rfl, Lib.hid (by unfold pivOf; rw [HL1.out])⟩
        case round =>
          obtain ⟨j, hj1, hj2, rfl, hj3⟩ := hrel
          by_cases hlj : j < n
          · have hld : dn < n := by omega
            obtain ⟨g0, e0, hxj, Aj, cj, hcj, hrj⟩ := HM.out.at_ hlj
            injection e0 with e0; injection e0 with e0 _ _; subst e0
            have HRJ := Lib.hid (HT1.out L[j] (List.getElem_mem hxj))
            have hlj2 : L[j].length = m := HRJ.out.1
            rw [hlj2] at hcj hrj
            obtain ⟨gj, oj, rfl, hxe, hce⟩ := hrj.rd.int hlk
            have HE : Hid (ent L j kn = L[j][kn]) := Lib.hid (ent_at' hxj hxe)
            have HPV : Hid (piv L kn (n - j) j = if ent L j kn = 0 then piv L kn (n - (j + 1)) (j + 1) else j) := Lib.hid (by
              rw [show n - j = (n - (j + 1)) + 1 by omega]; rfl)
            have HROW : Hid ((swapL L dn j)[dn]? = some L[j]) := Lib.hid (by
              rw [swapL_get? L (by rw [HL1.out]; exact hld) hxj]
              by_cases hdj : dn = j
              · subst hdj; rw [if_pos rfl]; exact List.getElem?_eq_getElem hxj
              · rw [if_neg hdj, if_pos rfl]; exact List.getElem?_eq_getElem hxj)
            have HGD : Hid (L.getD j [] = L[j]) := Lib.hid (getD_of_lt [] hxj)
            obtain ⟨R, hR⟩ : ∃ R, R = L[j] := ⟨_, rfl⟩
            have HXE : Hid (∀ h : kn < R.length, R[kn] = L[j][kn]) := Lib.hid (fun h => by simp only [hR])
            rw [← hR] at hrj HRJ HROW HGD
            clear hlj2
            obtain ⟨xe, hxe'⟩ : ∃ x, x = L[j][kn] := ⟨_, rfl⟩
            rw [← hxe'] at hce HE HXE
            have HX : Hid (0 ≤ xe ∧ xe < p) := Lib.hid (hxe' ▸ ((HT1.out L[j] (List.getElem_mem hxj)).2 _ (List.getElem_mem hxe)))
            clear hxe' hxe hR hxj
            cases hz : (xe == 0)
            · have hne : xe ≠ 0 := by simpa using hz
              have HVP : Hid (pivOf L kn dn = j) := Lib.hid (by rw [← hj3.out, HPV.out, if_neg (by rw [HE.out]; exact hne)])
              obtain ⟨g0, e0, hxd, Ad, cd, hcd, hrd⟩ := HM.out.at_ hld
              injection e0 with e0; injection e0 with e0 _ _; subst e0
              have hld2 : L[dn].length = m := (HT1.out L[dn] (List.getElem_mem hxd)).1
              rw [hld2] at hcd hrd
              have fd := HM.out.frozen_ dn
              have fj := HM.out.frozen_ j
              have HSC : Hid (scaledAt p L kn dn = (swapL L dn j).set dn (scaleL p R (invF p xe))) := Lib.hid (by unfold scaledAt; rw [HVP.out, HGD.out, HE.out])
              have HTS : Hid (Tab p m (scaledAt p L kn dn) ∧ (scaledAt p L kn dn).length = n) := Lib.hid ⟨scaledAt_tab (by omega) HT1.out (by rw [HL1.out]; exact hld) (by rw [HVP.out, HL1.out]; exact hlj), by rw [scaledAt_len, HL1.out]⟩
              have HNEXT : Hid (basisTo p M (kn + 1) = (clearTo p (scaledAt p L kn dn) dn kn n, dn + 1)) := Lib.hid (by
                rw [HSUC.out]; unfold stepB; rw [if_neg (by simp only; rw [HVP.out, HL1.out]; omega)]; simp only [HL1.out])
              have HSCD : Hid ((scaledAt p L kn dn).getD dn [] = scaleL p R (invF p xe)) := Lib.hid (by
                rw [HSC.out, getD_set, if_pos ⟨rfl, by rw [swapL_len, HL1.out]; exact hld⟩])
              have HM1b := Lib.hid (HM.out.rowKept hrj.2 j (.slice Ad m cd))
              have HSWS := Lib.hid (fun (w2 : World) (A1 : Option Addr) (c2 : Nat) (xs : List Int) (h : Mk (wr.setCell ⟨g, j, none⟩ (.slice Ad m cd)) w2 2 A1 m c2 (ints xs)) => HM.out.swapSet hlj hld hcj hcd h)
              obtain ⟨us, hOut⟩ := HM.out.outSet j (.slice Ad m cd)
              obtain ⟨gj', oj', ej', hxe2, hce2⟩ := (Own.rd HM1b.out).int hlk
              injection ej' with ej'; injection ej' with ej1 ej2 _
              subst ej1; subst ej2
              rw [HXE.out hxe2] at hce2
              have HOut := Lib.hid hOut
              clear hrj hrd hld2 hxd hxe2 hOut
              have hiv := invF_small hp xe
              have hx1 := HX.out
              have hP0 : (p == 0) = false := by simp; omega
              have hP1 : (p == -1) = false := by simp; omega
              have hP2 : ¬ p = 0 := by omega
              have hcallI := fun w' => l01Inv_any p xe w' HP'.out (by omega) hx1.2
              have hcallS := l02Scale_any p (some ⟨gj, oj, none⟩) m cj (invF p xe) R (wr.setCell ⟨g, j, none⟩ (.slice Ad m cd)) hp hp2 hm (Own.rd HM1b.out) HRJ.out.2 (by omega) (by omega)
              go_wp2_with fail
              refine (hcallI _).mono ?_
              rintro e v1 ⟨rfl, rfl⟩
              go_wp2_with fail
              refine hcallS.mono ?_
              rintro e w2 ⟨A5, c5, rfl, hM5⟩
              have hOut2 := HOut.out.below hM5.b
              obtain ⟨ud2, -, hud2⟩ := hOut2.2.cell_ hld
              have fd2 := hOut2.2.frozen_ dn
              have hM3 := HSWS.out w2 A5 c5 _ hM5
              rw [← HSC.out] at hM3
              have hOW : Own w2 w.heap.size 2 A5 m c5 (ints (scaleL p R (invF p xe))) := hM5.2.base HOut.out.1.size
              have hOW3 := hOW.grown (hOut2.set dn (.slice A5 m c5)).2 (hOW.ne hOut2.2 (by decide))
              rw [← HSCD.out] at hOW3
              have hM0 : MkII w (w2.setCell ⟨g, dn, none⟩ (.slice A5 m c5)) (some ⟨g, 0, none⟩) n c1 (clearTo p (scaledAt p L kn dn) dn kn 0) := by rw [clearTo_zero]; exact hM3
              obtain ⟨N, hN⟩ : ∃ N, N = scaledAt p L kn dn := ⟨_, rfl⟩
              rw [← hN] at hM0 HTS HNEXT hOW3
              clear hM3 hN HSC HSCD hOW hOut2 hM5 hcallI hcallS hcj hcd hce2 hc0 hce fd fj HM1b HSWS HOut
              go_wp2
              obtain ⟨w3, hw3⟩ : ∃ W, W = w2.setCell ⟨g, dn, none⟩ (.slice A5 m c5) := ⟨_, rfl⟩
              rw [← hw3] at hM0 hOW3 ⊢
              clear hw3 hud2 fd2
              go_loopw [10] (fun i w4 => ∃ r : Nat, r ≤ n ∧ i = .int .i64 r ∧ MkII w w4 (some ⟨g, 0, none⟩) n c1 (clearTo p N dn kn r) ∧ Own w4 w.heap.size 2 A5 m c5 (ints (N.getD dn []))) (fun i _ => n - (intOf i).toNat)
              case atStart => exact ⟨0, by omega, rfl, hM0, hOW3⟩
              case round =>
                obtain ⟨r, hr, rfl, hM4, hO4⟩ := hrel
                clear hM0 hOW3
                by_cases hlr : r < n
                · by_cases hrd : r = dn
                  · subst hrd
                    have HM4 := Lib.hid hM4
                    have HO4 := Lib.hid hO4
                    clear hM4 hO4
                    go_wp2
                    go_roundw
                    case rel => exact ⟨r + 1, by omega, by go_num, by rw [clearTo_skip]; exact HM4.out, HO4.out⟩
                    case measure => simp [intOf]; omega
                  · have hT4 : Tab p m (clearTo p N dn kn r) := clearTo_tab (by omega) HTS.out.1 dn kn r
                    have hr4 : (clearTo p N dn kn r).getD r [] = N.getD r [] := by rw [clearTo_getD (by rw [HTS.out.2]; exact hlr), if_neg (by omega)]
                    obtain ⟨g0, e0, hxr, Ar, cr, hcr, hrr⟩ := hM4.at_ hlr
                    injection e0 with e0; injection e0 with e0 _ _; subst e0
                    have HR1 := Lib.hid (hT4 _ (List.getElem_mem hxr))
                    have HD1 := Lib.hid ((HTS.out.1.row (by rw [HTS.out.2]; exact hld)).2)
                    have hl1 := HR1.out.1
                    rw [getD_of_lt [] hxr] at hr4
                    rw [hl1] at hcr hrr
                    rw [hr4] at hrr HR1
                    obtain ⟨gr, or', rfl, hxy, hcy⟩ := hrr.rd.int hlk
                    have hey : ent N r kn = (N.getD r [])[kn] := by unfold ent; rw [getD_of_lt 0 hxy]
                    obtain ⟨y, hy⟩ : ∃ y, y = (N.getD r [])[kn] := ⟨_, rfl⟩
                    have hyb : 0 ≤ y ∧ y < p := hy ▸ HR1.out.2 _ (List.getElem_mem hxy)
                    rw [← hy] at hcy hey
                    have HEY := Lib.hid hey
                    have HM4 := Lib.hid hM4
                    have HRR := Lib.hid hrr
                    have HO4 := Lib.hid hO4
                    have hmb := emod_small (-y) p (by omega)
                    clear hy hT4 hr4 hl1 hxr hxy hey hM4 hrr hO4
                    have hwy := i64_small (x := p - y) (by omega) (by omega)
                    have hty : (p - y).tmod p = (-y) % p := by rw [Int.tmod_eq_emod_of_nonneg (by omega)]; simp
                    go_wp2
                    refine wp_obs 21 [[], [], [], [], [], [3, 4], [3, 4, 5], [], [], [], [], [9, 10], [9, 10, 11], [], [9, 10, 11, 12, 13], [9, 10, 11, 12, 13, 14], [8, 9, 10, 11, 12, 13, 14, 15], [], [8, 9, 10, 11, 12, 13, 14, 15, 16, 17], [2, 3, 4, 5, 6, 7, 8, 9, 10, 11, 12, 13, 14, 15, 16, 17, 18], [0, 1], [0, 1, 2, 3, 4, 5, 6, 7, 8, 9, 10, 11, 12, 13, 14, 15, 16, 17, 18, 19, 20]] [VIs (.slice (some ⟨g, 0, none⟩) n c1), VIs (.int .i64 (r)), VIs (.int .i64 (p)), VIs (.slice (some ⟨g, 0, none⟩) n c1), VIs (.int .i64 (r)), VIs (.pointer (some ⟨g, r, none⟩)), VIs (.slice (some ⟨gr, or', none⟩) m cr), VIs (.slice A5 m c5), VIs (.int .i64 (p)), VIs (.slice (some ⟨g, 0, none⟩) n c1), VIs (.int .i64 (r)), VIs (.pointer (some ⟨g, r, none⟩)), VIs (.slice (some ⟨gr, or', none⟩) m cr), VIs (.int .i64 (kn)), VIs (.pointer (some ⟨gr, or' + kn, none⟩)), VIs (.int .i64 (y)), VIs (.int .i64 (p - y)), VIs (.int .i64 (p)), VIs (.int .i64 ((-y) % p)), VSl wr m (plusL p (N.getD r []) (N.getD dn []) ((-y) % p)), VIs (.pointer (some ⟨g, r, none⟩))] (fun w' => w'.cell? ⟨g, r, none⟩ = some (.slice (some ⟨gr, or', none⟩) m cr) ∧ w'.cell? ⟨gr, or' + kn, none⟩ = some (.int .i64 y) ∧ Below wr.heap.size wr w') (by kernel_rfl) (by kernel_rfl) (fun _ _ h hb => keepB2 h hb (Nat.le_refl _)) (⟨hcr, hcy, (Below.refl _ _).drew⟩) (fun x => ?_)
                    refine obs_step (Eq.trans (by simp only [List.getElem?_toArray, List.getElem?_cons_zero]; exact rfl) rfl) rfl (fun w' hS hV K hK => ?_) ?_
                    · have q0 := hS.1; have q1 := hS.2.1; have q2 := hS.2.2
                      go_simp
                      exact hK.out _ _ _ rfl rfl rfl (Below.refl _ _)
                    simp only [List.setIfInBounds_toArray, List.set_cons_zero, List.set_cons_succ]
                    refine obs_step (Eq.trans (by simp only [List.getElem?_toArray, List.getElem?_cons_succ, List.getElem?_cons_zero]; exact rfl) rfl) rfl (fun w' hS hV K hK => ?_) ?_
                    · have q0 := hS.1; have q1 := hS.2.1; have q2 := hS.2.2
                      go_simp
                      exact hK.out _ _ _ rfl rfl rfl (Below.refl _ _)
                    simp only [List.setIfInBounds_toArray, List.set_cons_zero, List.set_cons_succ]
                    refine obs_step (Eq.trans (by simp only [List.getElem?_toArray, List.getElem?_cons_succ, List.getElem?_cons_zero]; exact rfl) rfl) rfl (fun w' hS hV K hK => ?_) ?_
                    · have q0 := hS.1; have q1 := hS.2.1; have q2 := hS.2.2
                      go_simp
                      exact hK.out _ _ _ rfl rfl rfl (Below.refl _ _)
                    simp only [List.setIfInBounds_toArray, List.set_cons_zero, List.set_cons_succ]
                    refine obs_step (Eq.trans (by simp only [List.getElem?_toArray, List.getElem?_cons_succ, List.getElem?_cons_zero]; exact rfl) rfl) rfl (fun w' hS hV K hK => ?_) ?_
                    · have q0 := hS.1; have q1 := hS.2.1; have q2 := hS.2.2
                      go_simp
                      exact hK.out _ _ _ rfl rfl rfl (Below.refl _ _)
                    simp only [List.setIfInBounds_toArray, List.set_cons_zero, List.set_cons_succ]
                    refine obs_step (Eq.trans (by simp only [List.getElem?_toArray, List.getElem?_cons_succ, List.getElem?_cons_zero]; exact rfl) rfl) rfl (fun w' hS hV K hK => ?_) ?_
                    · have q0 := hS.1; have q1 := hS.2.1; have q2 := hS.2.2
                      go_simp
                      exact hK.out _ _ _ rfl rfl rfl (Below.refl _ _)
                    simp only [List.setIfInBounds_toArray, List.set_cons_zero, List.set_cons_succ]
                    refine obs_step (Eq.trans (by simp only [List.getElem?_toArray, List.getElem?_cons_succ, List.getElem?_cons_zero]; exact rfl) rfl) rfl (fun w' hS hV K hK => ?_) ?_
                    · have e3 : x 3 = (.slice (some ⟨g, 0, none⟩) n c1) := hV 3 (by decide)
                      have e4 : x 4 = (.int .i64 (r)) := hV 4 (by decide)
                      have q0 := hS.1; have q1 := hS.2.1; have q2 := hS.2.2
                      go_simp
                      exact hK.out _ _ _ rfl rfl rfl (Below.refl _ _)
                    simp only [List.setIfInBounds_toArray, List.set_cons_zero, List.set_cons_succ]
                    refine obs_step (Eq.trans (by simp only [List.getElem?_toArray, List.getElem?_cons_succ, List.getElem?_cons_zero]; exact rfl) rfl) rfl (fun w' hS hV K hK => ?_) ?_
                    · have e3 : x 3 = (.slice (some ⟨g, 0, none⟩) n c1) := hV 3 (by decide)
                      have e4 : x 4 = (.int .i64 (r)) := hV 4 (by decide)
                      have e5 : x 5 = (.pointer (some ⟨g, r, none⟩)) := hV 5 (by decide)
                      have q0 := hS.1; have q1 := hS.2.1; have q2 := hS.2.2
                      go_simp
                      exact hK.out _ _ _ rfl rfl rfl (Below.refl _ _)
                    simp only [List.setIfInBounds_toArray, List.set_cons_zero, List.set_cons_succ]
                    refine obs_step (Eq.trans (by simp only [List.getElem?_toArray, List.getElem?_cons_succ, List.getElem?_cons_zero]; exact rfl) rfl) rfl (fun w' hS hV K hK => ?_) ?_
                    · have q0 := hS.1; have q1 := hS.2.1; have q2 := hS.2.2
                      go_simp
                      exact hK.out _ _ _ rfl rfl rfl (Below.refl _ _)
                    simp only [List.setIfInBounds_toArray, List.set_cons_zero, List.set_cons_succ]
                    refine obs_step (Eq.trans (by simp only [List.getElem?_toArray, List.getElem?_cons_succ, List.getElem?_cons_zero]; exact rfl) rfl) rfl (fun w' hS hV K hK => ?_) ?_
                    · have q0 := hS.1; have q1 := hS.2.1; have q2 := hS.2.2
                      go_simp
                      exact hK.out _ _ _ rfl rfl rfl (Below.refl _ _)
                    simp only [List.setIfInBounds_toArray, List.set_cons_zero, List.set_cons_succ]
                    refine obs_step (Eq.trans (by simp only [List.getElem?_toArray, List.getElem?_cons_succ, List.getElem?_cons_zero]; exact rfl) rfl) rfl (fun w' hS hV K hK => ?_) ?_
                    · have q0 := hS.1; have q1 := hS.2.1; have q2 := hS.2.2
                      go_simp
                      exact hK.out _ _ _ rfl rfl rfl (Below.refl _ _)
                    simp only [List.setIfInBounds_toArray, List.set_cons_zero, List.set_cons_succ]
                    refine obs_step (Eq.trans (by simp only [List.getElem?_toArray, List.getElem?_cons_succ, List.getElem?_cons_zero]; exact rfl) rfl) rfl (fun w' hS hV K hK => ?_) ?_
                    · have q0 := hS.1; have q1 := hS.2.1; have q2 := hS.2.2
                      go_simp
                      exact hK.out _ _ _ rfl rfl rfl (Below.refl _ _)
                    simp only [List.setIfInBounds_toArray, List.set_cons_zero, List.set_cons_succ]
                    refine obs_step (Eq.trans (by simp only [List.getElem?_toArray, List.getElem?_cons_succ, List.getElem?_cons_zero]; exact rfl) rfl) rfl (fun w' hS hV K hK => ?_) ?_
                    · have e9 : x 9 = (.slice (some ⟨g, 0, none⟩) n c1) := hV 9 (by decide)
                      have e10 : x 10 = (.int .i64 (r)) := hV 10 (by decide)
                      have q0 := hS.1; have q1 := hS.2.1; have q2 := hS.2.2
                      go_simp
                      exact hK.out _ _ _ rfl rfl rfl (Below.refl _ _)
                    simp only [List.setIfInBounds_toArray, List.set_cons_zero, List.set_cons_succ]
                    refine obs_step (Eq.trans (by simp only [List.getElem?_toArray, List.getElem?_cons_succ, List.getElem?_cons_zero]; exact rfl) rfl) rfl (fun w' hS hV K hK => ?_) ?_
                    · have e9 : x 9 = (.slice (some ⟨g, 0, none⟩) n c1) := hV 9 (by decide)
                      have e10 : x 10 = (.int .i64 (r)) := hV 10 (by decide)
                      have e11 : x 11 = (.pointer (some ⟨g, r, none⟩)) := hV 11 (by decide)
                      have q0 := hS.1; have q1 := hS.2.1; have q2 := hS.2.2
                      go_simp
                      exact hK.out _ _ _ rfl rfl rfl (Below.refl _ _)
                    simp only [List.setIfInBounds_toArray, List.set_cons_zero, List.set_cons_succ]
                    refine obs_step (Eq.trans (by simp only [List.getElem?_toArray, List.getElem?_cons_succ, List.getElem?_cons_zero]; exact rfl) rfl) rfl (fun w' hS hV K hK => ?_) ?_
                    · have q0 := hS.1; have q1 := hS.2.1; have q2 := hS.2.2
                      go_simp
                      exact hK.out _ _ _ rfl rfl rfl (Below.refl _ _)
                    simp only [List.setIfInBounds_toArray, List.set_cons_zero, List.set_cons_succ]
                    refine obs_step (Eq.trans (by simp only [List.getElem?_toArray, List.getElem?_cons_succ, List.getElem?_cons_zero]; exact rfl) rfl) rfl (fun w' hS hV K hK => ?_) ?_
                    · have e9 : x 9 = (.slice (some ⟨g, 0, none⟩) n c1) := hV 9 (by decide)
                      have e10 : x 10 = (.int .i64 (r)) := hV 10 (by decide)
                      have e11 : x 11 = (.pointer (some ⟨g, r, none⟩)) := hV 11 (by decide)
                      have e12 : x 12 = (.slice (some ⟨gr, or', none⟩) m cr) := hV 12 (by decide)
                      have e13 : x 13 = (.int .i64 (kn)) := hV 13 (by decide)
                      have q0 := hS.1; have q1 := hS.2.1; have q2 := hS.2.2
                      go_simp
                      exact hK.out _ _ _ rfl rfl rfl (Below.refl _ _)
                    simp only [List.setIfInBounds_toArray, List.set_cons_zero, List.set_cons_succ]
                    refine obs_step (Eq.trans (by simp only [List.getElem?_toArray, List.getElem?_cons_succ, List.getElem?_cons_zero]; exact rfl) rfl) rfl (fun w' hS hV K hK => ?_) ?_
                    · have e9 : x 9 = (.slice (some ⟨g, 0, none⟩) n c1) := hV 9 (by decide)
                      have e10 : x 10 = (.int .i64 (r)) := hV 10 (by decide)
                      have e11 : x 11 = (.pointer (some ⟨g, r, none⟩)) := hV 11 (by decide)
                      have e12 : x 12 = (.slice (some ⟨gr, or', none⟩) m cr) := hV 12 (by decide)
                      have e13 : x 13 = (.int .i64 (kn)) := hV 13 (by decide)
                      have e14 : x 14 = (.pointer (some ⟨gr, or' + kn, none⟩)) := hV 14 (by decide)
                      have q0 := hS.1; have q1 := hS.2.1; have q2 := hS.2.2
                      go_simp
                      exact hK.out _ _ _ rfl rfl rfl (Below.refl _ _)
                    simp only [List.setIfInBounds_toArray, List.set_cons_zero, List.set_cons_succ]
                    refine obs_step (Eq.trans (by simp only [List.getElem?_toArray, List.getElem?_cons_succ, List.getElem?_cons_zero]; exact rfl) rfl) rfl (fun w' hS hV K hK => ?_) ?_
                    · have e8 : x 8 = (.int .i64 (p)) := hV 8 (by decide)
                      have e9 : x 9 = (.slice (some ⟨g, 0, none⟩) n c1) := hV 9 (by decide)
                      have e10 : x 10 = (.int .i64 (r)) := hV 10 (by decide)
                      have e11 : x 11 = (.pointer (some ⟨g, r, none⟩)) := hV 11 (by decide)
                      have e12 : x 12 = (.slice (some ⟨gr, or', none⟩) m cr) := hV 12 (by decide)
                      have e13 : x 13 = (.int .i64 (kn)) := hV 13 (by decide)
                      have e14 : x 14 = (.pointer (some ⟨gr, or' + kn, none⟩)) := hV 14 (by decide)
                      have e15 : x 15 = (.int .i64 (y)) := hV 15 (by decide)
                      have q0 := hS.1; have q1 := hS.2.1; have q2 := hS.2.2
                      go_simp
                      exact hK.out _ _ _ rfl rfl rfl (Below.refl _ _)
                    simp only [List.setIfInBounds_toArray, List.set_cons_zero, List.set_cons_succ]
                    refine obs_step (Eq.trans (by simp only [List.getElem?_toArray, List.getElem?_cons_succ, List.getElem?_cons_zero]; exact rfl) rfl) rfl (fun w' hS hV K hK => ?_) ?_
                    · have q0 := hS.1; have q1 := hS.2.1; have q2 := hS.2.2
                      go_simp
                      exact hK.out _ _ _ rfl rfl rfl (Below.refl _ _)
                    simp only [List.setIfInBounds_toArray, List.set_cons_zero, List.set_cons_succ]
                    refine obs_step (Eq.trans (by simp only [List.getElem?_toArray, List.getElem?_cons_succ, List.getElem?_cons_zero]; exact rfl) rfl) rfl (fun w' hS hV K hK => ?_) ?_
                    · have e8 : x 8 = (.int .i64 (p)) := hV 8 (by decide)
                      have e9 : x 9 = (.slice (some ⟨g, 0, none⟩) n c1) := hV 9 (by decide)
                      have e10 : x 10 = (.int .i64 (r)) := hV 10 (by decide)
                      have e11 : x 11 = (.pointer (some ⟨g, r, none⟩)) := hV 11 (by decide)
                      have e12 : x 12 = (.slice (some ⟨gr, or', none⟩) m cr) := hV 12 (by decide)
                      have e13 : x 13 = (.int .i64 (kn)) := hV 13 (by decide)
                      have e14 : x 14 = (.pointer (some ⟨gr, or' + kn, none⟩)) := hV 14 (by decide)
                      have e15 : x 15 = (.int .i64 (y)) := hV 15 (by decide)
                      have e16 : x 16 = (.int .i64 (p - y)) := hV 16 (by decide)
                      have e17 : x 17 = (.int .i64 (p)) := hV 17 (by decide)
                      have q0 := hS.1; have q1 := hS.2.1; have q2 := hS.2.2
                      go_simp
                      exact hK.out _ _ _ rfl rfl rfl (Below.refl _ _)
                    simp only [List.setIfInBounds_toArray, List.set_cons_zero, List.set_cons_succ]
                    refine obs_step (Eq.trans (by simp only [List.getElem?_toArray, List.getElem?_cons_succ, List.getElem?_cons_zero]; exact rfl) rfl) rfl (fun w' hS hV K hK => ?_) ?_
                    · have e2 : x 2 = (.int .i64 (p)) := hV 2 (by decide)
                      have e3 : x 3 = (.slice (some ⟨g, 0, none⟩) n c1) := hV 3 (by decide)
                      have e4 : x 4 = (.int .i64 (r)) := hV 4 (by decide)
                      have e5 : x 5 = (.pointer (some ⟨g, r, none⟩)) := hV 5 (by decide)
                      have e6 : x 6 = (.slice (some ⟨gr, or', none⟩) m cr) := hV 6 (by decide)
                      have e7 : x 7 = (.slice A5 m c5) := hV 7 (by decide)
                      have e8 : x 8 = (.int .i64 (p)) := hV 8 (by decide)
                      have e9 : x 9 = (.slice (some ⟨g, 0, none⟩) n c1) := hV 9 (by decide)
                      have e10 : x 10 = (.int .i64 (r)) := hV 10 (by decide)
                      have e11 : x 11 = (.pointer (some ⟨g, r, none⟩)) := hV 11 (by decide)
                      have e12 : x 12 = (.slice (some ⟨gr, or', none⟩) m cr) := hV 12 (by decide)
                      have e13 : x 13 = (.int .i64 (kn)) := hV 13 (by decide)
                      have e14 : x 14 = (.pointer (some ⟨gr, or' + kn, none⟩)) := hV 14 (by decide)
                      have e15 : x 15 = (.int .i64 (y)) := hV 15 (by decide)
                      have e16 : x 16 = (.int .i64 (p - y)) := hV 16 (by decide)
                      have e17 : x 17 = (.int .i64 (p)) := hV 17 (by decide)
                      have e18 : x 18 = (.int .i64 ((-y) % p)) := hV 18 (by decide)
                      have q0 := hS.1; have q1 := hS.2.1; have q2 := hS.2.2
                      go_simp
                      refine (l02Plus_any p _ m _ _ m _ ((-y) % p) _ _ _ hp hp2 hm (Nat.le_refl _) (HRR.out.rd.below hS.2.2) HR1.out.2 ((Own.rd HO4.out).below hS.2.2) HD1.out (by omega) (by omega)).mono ?_
                      rintro e v1 ⟨A2, c2, rfl, hM⟩
                      exact hK.out _ _ _ rfl rfl ⟨_, _, rfl, hM.after hS.2.2⟩ hM.b
                    simp only [List.setIfInBounds_toArray, List.set_cons_zero, List.set_cons_succ]
                    refine obs_step (Eq.trans (by simp only [List.getElem?_toArray, List.getElem?_cons_succ, List.getElem?_cons_zero]; exact rfl) rfl) rfl (fun w' hS hV K hK => ?_) ?_
                    · have e0 : x 0 = (.slice (some ⟨g, 0, none⟩) n c1) := hV 0 (by decide)
                      have e1 : x 1 = (.int .i64 (r)) := hV 1 (by decide)
                      have q0 := hS.1; have q1 := hS.2.1; have q2 := hS.2.2
                      go_simp
                      exact hK.out _ _ _ rfl rfl rfl (Below.refl _ _)
                    simp only [List.setIfInBounds_toArray, List.set_cons_zero, List.set_cons_succ]
                    refine fun w' hS hV => ?_
                    have e0 : x 0 = (.slice (some ⟨g, 0, none⟩) n c1) := hV 0 (by decide)
                    have e1 : x 1 = (.int .i64 (r)) := hV 1 (by decide)
                    have e2 : x 2 = (.int .i64 (p)) := hV 2 (by decide)
                    have e3 : x 3 = (.slice (some ⟨g, 0, none⟩) n c1) := hV 3 (by decide)
                    have e4 : x 4 = (.int .i64 (r)) := hV 4 (by decide)
                    have e5 : x 5 = (.pointer (some ⟨g, r, none⟩)) := hV 5 (by decide)
                    have e6 : x 6 = (.slice (some ⟨gr, or', none⟩) m cr) := hV 6 (by decide)
                    have e7 : x 7 = (.slice A5 m c5) := hV 7 (by decide)
                    have e8 : x 8 = (.int .i64 (p)) := hV 8 (by decide)
                    have e9 : x 9 = (.slice (some ⟨g, 0, none⟩) n c1) := hV 9 (by decide)
                    have e10 : x 10 = (.int .i64 (r)) := hV 10 (by decide)
                    have e11 : x 11 = (.pointer (some ⟨g, r, none⟩)) := hV 11 (by decide)
                    have e12 : x 12 = (.slice (some ⟨gr, or', none⟩) m cr) := hV 12 (by decide)
                    have e13 : x 13 = (.int .i64 (kn)) := hV 13 (by decide)
                    have e14 : x 14 = (.pointer (some ⟨gr, or' + kn, none⟩)) := hV 14 (by decide)
                    have e15 : x 15 = (.int .i64 (y)) := hV 15 (by decide)
                    have e16 : x 16 = (.int .i64 (p - y)) := hV 16 (by decide)
                    have e17 : x 17 = (.int .i64 (p)) := hV 17 (by decide)
                    have e18 : x 18 = (.int .i64 ((-y) % p)) := hV 18 (by decide)
                    obtain ⟨A19, c19, e19, h19⟩ := hV 19 (by decide)
                    have e20 : x 20 = (.pointer (some ⟨g, r, none⟩)) := hV 20 (by decide)
                    simp only [e0, e1, e2, e3, e4, e5, e6, e7, e8, e9, e10, e11, e12, e13, e14, e15, e16, e17, e18, e19, e20]
                    clear e0 e1 e2 e3 e4 e5 e6 e7 e8 e9 e10 e11 e12 e13 e14 e15 e16 e17 e18 e19 e20
                    obtain ⟨q0, q1, q2⟩ := hS
                    have ff := (HM4.out.below q2).frozen_ r
                    refine any_one (j := 21) (by kernel_rfl) (Eq.trans (by simp only [List.getElem?_toArray, List.getElem?_cons_succ, List.getElem?_cons_zero]; exact rfl) rfl) (fun K hK => ?_)
                    go_simp
                    refine hK.out _ _ (wpAny_done (by kernel_rfl) ?_ _)
                    have hM5 := HM4.out.setRow h19 r
                    have hM6 : MkII w (w'.setCell ⟨g, r, none⟩ (.slice A19 m c19)) (some ⟨g, 0, none⟩) n c1 (clearTo p N dn kn (r + 1)) := by
                      rw [clearTo_succ p N dn kn r (by rw [HTS.out.2]; exact hlr) hrd, HEY.out, plusL_mod p _ _ (k' := (-y) % p) (by rw [Int.emod_emod_of_dvd _ (Int.dvd_refl _)])]; exact hM5
                    have hO6 := (HM4.out.below q2).rowKept (HO4.out.below q2) r (.slice A19 m c19)
                    clear q0 q1 q2 ff hM5 h19
                    go_wp2
                    go_roundw
                    case rel => exact ⟨r + 1, by omega, by go_num, hM6, hO6⟩
                    case measure => simp [intOf]; omega
                · obtain rfl : r = n := by omega
                  have HM4 := Lib.hid hM4
                  clear hM4
                  go_wp2
                  go_roundw
                  case rel => exact ⟨dn + 1, kn + 1, by go_num, by go_num, by omega, by rw [HNEXT.out], by rw [HNEXT.out]; exact HM4.out⟩
                  case measure => simp [intOf]; omega
            · have hx0' : xe = 0 := by simpa using hz
              go_wp2
              go_round
              case rel => exact ⟨j + 1, by omega, by omega, by go_num, Lib.hid (by rw [← hj3.out, HPV.out, if_pos (by rw [HE.out]; exact hx0')])⟩
              case measure => simp [intOf]; omega
          · obtain rfl : j = n := by omega
            have HVP : Hid (pivOf L kn dn = j) := Lib.hid (by rw [← hj3.out, Nat.sub_self]; rfl)
            have HNEXT : Hid (basisTo p M (kn + 1) = (L, dn)) := Lib.hid (by
              rw [HSUC.out]; unfold stepB; rw [if_pos (by simp only; rw [HVP.out, HL1.out])])
            go_wp2
            go_roundw
            case rel => exact ⟨dn, kn + 1, rfl, by go_num, by omega, by rw [HNEXT.out], by rw [HNEXT.out]; exact HM.out⟩
            case measure => simp [intOf]; omega
      · have HBE : Hid (basisL p M = L.take dn ∧ (L.take dn).length = dn) := Lib.hid ⟨by
          by_cases hk2 : kn = m
          · exact HEND.out hk2
          · exact HFULL.out (by omega), by rw [List.length_take, HL1.out]; omega⟩
        go_wp2
        all_goals
          go_ret
          rw [HBE.out.1, HBE.out.2]
          exact ⟨_, _, rfl, HM.out.cut hd1⟩
  · obtain rfl : n = 0 := by omega
    obtain rfl : M = [] := List.eq_nil_of_length_eq_zero hML
    clear hT HT
    have HBN := Lib.hid (basisL_nil p)
    go_enter Tryz.func220, Tryz.ntmps220
    go_wp2_with fail
    refine hclone.mono ?_
    rintro e w1 ⟨A1, c1, rfl, hM1⟩
    clear hclone
    go_wp2
    go_loopw [6, 7] (fun d q wr => d = .int .i64 0 ∧ q = .int .i64 0 ∧ wr = w1) (fun _ _ _ => 0)
    case atStart => exact ⟨rfl, rfl, rfl⟩
    case round =>
      obtain ⟨rfl, rfl, rfl⟩ := hrel
      rcases hM1 with ⟨rows, hm1, hn1⟩
      have hcap := hm1.2.cap
      rcases hm1.2.form with ⟨rfl, _⟩ | ⟨g, rfl, _, _⟩
      all_goals
        go_wp2
        go_ret
        rw [HBN.out]
        exact ⟨_, _, rfl, rows, hm1, hn1⟩
end Go.Proofs.YtggigolkncckoaaGreat

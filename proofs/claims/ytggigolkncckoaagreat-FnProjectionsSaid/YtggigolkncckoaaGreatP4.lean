/-
  LawFnProjections: part 4 of the texts that the proof needs. No condition.
-/
import Derived.Test.YtggigolkncckoaaGreatP3
namespace Go.Proofs.YtggigolkncckoaaGreat
open Go.RowKit
theorem sorted_ext {xs ys : List Int} (hx : xs.Pairwise (· < ·)) (hy : ys.Pairwise (· < ·)) (h : ∀ a, a ∈ xs ↔ a ∈ ys) : xs = ys := by
  have nx : xs.Nodup := hx.imp fun h => by omega
  have ny : ys.Nodup := hy.imp fun h => by omega
  exact List.Perm.eq_of_pairwise (le := fun a b : Int => a < b) (fun a b _ _ h1 h2 => by omega) hx hy ((List.perm_ext_iff_of_nodup nx ny).2 h)
theorem sortL_pairwise (zs : List Int) : (sortL zs).Pairwise (· ≤ ·) := by
  have := List.pairwise_mergeSort (le := fun x y : Int => decide (x ≤ y)) (fun a b c h1 h2 => by simp at *; omega) (fun a b => by simp; omega) zs
  exact this.imp fun h => by simpa using h
theorem sortL_mem (zs : List Int) (a : Int) : a ∈ sortL zs ↔ a ∈ zs := List.mem_mergeSort
theorem arr_get (zs : List Int) (i : Nat) : (zs.toArray[i]! : Int) = zs.getD i 0 := by simp [List.getD]
theorem le_of_sorted {zs : List Int} (h : zs.Pairwise (· ≤ ·)) {i j : Nat} (hij : i ≤ j) (hj : j < zs.length) : zs.getD i 0 ≤ zs.getD j 0 := by
  rw [getD_of_lt 0 (by omega), getD_of_lt 0 hj]
  by_cases e : i = j
  · subst e; exact Int.le_refl _
  · exact List.pairwise_iff_getElem.1 h i j (by omega) hj (by omega)
theorem compact_lt {zs : List Int} (h : zs.Pairwise (· ≤ ·)) : (Lib.compact zs).Pairwise (· < ·) := by
  unfold Lib.compact Lib.compactUpTo
  rw [List.pairwise_map]
  refine List.Pairwise.imp_of_mem (R := (· < ·)) ?_ (List.pairwise_lt_range.filter _)
  intro a b ha hb hab
  have hb1 := List.mem_filter.1 hb
  have hbl : b < zs.length := by simpa using hb1.1
  have hk := hb1.2
  simp only [Lib.keeps, arr_get, ne_eq, decide_eq_true_eq] at hk
  rw [arr_get, arr_get]
  have h1 := le_of_sorted h (show a ≤ b - 1 by omega) (by omega)
  have h2 := le_of_sorted h (show b - 1 ≤ b by omega) hbl
  rcases hk with hk | hk
  · omega
  · have : zs.getD b 0 ≠ zs.getD (b - 1) 0 := by simpa using hk
    omega
theorem compact_mem {zs : List Int} (a : Int) : a ∈ Lib.compact zs ↔ a ∈ zs := by
  unfold Lib.compact Lib.compactUpTo
  constructor
  · intro h
    obtain ⟨i, hi, rfl⟩ := List.mem_map.1 h
    have : i < zs.length := by have := (List.mem_filter.1 hi).1; simpa using this
    rw [arr_get]
    exact getD_mem 0 this
  · intro h
    obtain ⟨j, hj, e⟩ := List.getElem_of_mem h
    have key : ∀ j, j < zs.length → zs.getD j 0 = a → ∃ i, i < zs.length ∧ zs.getD i 0 = a ∧ (i = 0 ∨ zs.getD i 0 ≠ zs.getD (i - 1) 0) := by
      intro j
      induction j with
      | zero => intro h1 h2; exact ⟨0, h1, h2, .inl rfl⟩
      | succ j ih =>
        intro h1 h2
        by_cases hp : zs.getD j 0 = a
        · exact ih (by omega) hp
        · exact ⟨j + 1, h1, h2, .inr (by rw [h2]; exact fun e => hp (by simpa using e.symm))⟩
    obtain ⟨i, hi, he, hk⟩ := key j hj (by rw [getD_of_lt 0 hj]; exact e)
    refine List.mem_map.2 ⟨i, List.mem_filter.2 ⟨by simpa using hi, ?_⟩, by rw [arr_get]; exact he⟩
    simp only [Lib.keeps, arr_get]
    exact decide_eq_true hk
/-- The grades of the first k places with numbers other than 0, one after another. -/
def colL (xs : List Int) (k : Nat) : List Int := ((List.range k).filter fun i => xs.getD i 0 != 0).map fun i => ((pc i : Nat) : Int)
theorem colL_succ (xs : List Int) (k : Nat) : colL xs (k + 1) = if xs.getD k 0 != 0 then colL xs k ++ [((pc k : Nat) : Int)] else colL xs k := by
  unfold colL
  rw [List.range_succ, List.filter_append, List.map_append, List.filter_cons, List.filter_nil]
  split
  · rfl
  · rw [List.map_nil, List.append_nil]
theorem colL_le (xs : List Int) (k : Nat) : (colL xs k).length ≤ k := by
  unfold colL
  rw [List.length_map]
  exact Nat.le_trans (List.length_filter_le _ _) (by simp)
/-- Has grade k a number other than 0? -/
def hasG (xs : List Int) (k : Nat) : Bool := (List.range xs.length).any fun i => xs.getD i 0 != 0 && pc i == k
/-- The grades of a multivector. -/
def gradesL (xs : List Int) : List Int := ((List.range 7).filter (hasG xs)).map fun k : Nat => (k : Int)
theorem gradesL_len (xs : List Int) : (gradesL xs).length ≤ 7 := by
  unfold gradesL
  rw [List.length_map]
  exact Nat.le_trans (List.length_filter_le _ _) (by simp)
theorem hasG_iff (xs : List Int) (k : Nat) : hasG xs k = true ↔ ∃ i, i < xs.length ∧ xs.getD i 0 ≠ 0 ∧ pc i = k := by
  unfold hasG
  rw [List.any_eq_true]
  constructor
  · rintro ⟨i, hi, h⟩
    simp only [Bool.and_eq_true, bne_iff_ne, ne_eq, beq_iff_eq] at h
    exact ⟨i, by simpa using hi, h.1, h.2⟩
  · rintro ⟨i, hi, h1, h2⟩
    exact ⟨i, by simpa using hi, by simp only [Bool.and_eq_true, bne_iff_ne, ne_eq, beq_iff_eq]; exact ⟨h1, h2⟩⟩
theorem gradesL_mem (xs : List Int) (hl : xs.length ≤ 64) (a : Int) : a ∈ gradesL xs ↔ ∃ i, i < xs.length ∧ xs.getD i 0 ≠ 0 ∧ a = pc i := by
  unfold gradesL
  rw [List.mem_map]
  constructor
  · rintro ⟨k, hk, rfl⟩
    obtain ⟨_, hk⟩ := List.mem_filter.1 hk
    obtain ⟨i, h1, h2, h3⟩ := (hasG_iff xs k).1 hk
    exact ⟨i, h1, h2, by rw [h3]⟩
  · rintro ⟨i, h1, h2, rfl⟩
    exact ⟨pc i, List.mem_filter.2 ⟨by have := pc_le 6 i (by omega); simp; omega, (hasG_iff xs _).2 ⟨i, h1, h2, rfl⟩⟩, rfl⟩
theorem gradesL_lt (xs : List Int) : (gradesL xs).Pairwise (· < ·) := by
  unfold gradesL
  rw [List.pairwise_map]
  exact (List.pairwise_lt_range.filter _).imp fun h => by omega
theorem gradesL_eq (xs : List Int) (hl : xs.length ≤ 64) : Lib.compact (sortL (colL xs xs.length)) = gradesL xs := by
  refine sorted_ext (compact_lt (sortL_pairwise _)) (gradesL_lt xs) fun a => ?_
  rw [compact_mem, sortL_mem, gradesL_mem xs hl]
  unfold colL
  rw [List.mem_map]
  constructor
  · rintro ⟨i, hi, rfl⟩
    obtain ⟨h1, h2⟩ := List.mem_filter.1 hi
    exact ⟨i, by simpa using h1, by simpa using h2, rfl⟩
  · rintro ⟨i, h1, h2, rfl⟩
    exact ⟨i, List.mem_filter.2 ⟨by simpa using h1, by simpa using h2⟩, rfl⟩
set_option maxHeartbeats 800000 in
theorem gradesOf_any (X : Option Addr) (m cx : Nat) (xs : List Int) (w : World) (hm : m ≤ 64) (hx : Rd w X m (ints xs)) :
    Calls Tryz.prog 136 #[.slice X m cx] w fun e w' => ∃ A' c', e = .returned (.slice A' (gradesL xs).length c') ∧ MkI w w' A' (gradesL xs).length c' (gradesL xs) := by
  have hxl : xs.length = m := by have := hx.1; rwa [ints_length] at this
  have hM0 := Mk.lit (E := 2) (Below.refl w.heap.size w) #[] (by simp)
  have HG : Hid (Lib.compact (sortL (colL xs m)) = gradesL xs) := Lib.hid (by rw [← hxl]; exact gradesL_eq xs (by omega))
  clear hxl
  go_enter Tryz.func136, Tryz.ntmps136
  go_wp2
  go_loopw [3, 4, 5, 9] (fun o _ _ i wr => ∃ (k g c' : Nat), k ≤ m ∧ i = .int .i64 k ∧ o = .slice (some ⟨g, 0, none⟩) (colL xs k).length c' ∧ MkI w wr (some ⟨g, 0, none⟩) (colL xs k).length c' (colL xs k)) (fun _ _ _ i _ => m - (intOf i).toNat)
  case atStart => exact ⟨0, _, _, by omega, rfl, rfl, by simpa [MkI, ints, colL] using hM0⟩
  case round =>
    obtain ⟨k, g, c', hk, rfl, rfl, hM⟩ := hrel
    clear hM0
    by_cases hlt : k < m
    · obtain ⟨g1, o1, rfl, hxk, hcx⟩ := (hx.below hM.b).int hlt
      have hs := colL_succ xs k
      rw [getD_of_lt 0 hxk] at hs
      have HS := Lib.hid hs
      have HM := Lib.hid hM
      have hle := colL_le xs k
      obtain ⟨l, hl⟩ : ∃ l, l = (colL xs k).length := ⟨_, rfl⟩
      rw [← hl] at hle HM ⊢
      have HL := Lib.hid hl
      clear hs hM hx hl
      cases h0 : (xs[k] != 0)
      · have H0 := Lib.hid h0
        go_wp2
        go_roundw
        case rel =>
          have e : colL xs (k + 1) = colL xs k := by rw [HS.out, H0.out]; rfl
          exact ⟨k + 1, g, c', by omega, by go_num, by rw [e, ← HL.out], by rw [e, ← HL.out]; exact HM.out⟩
        case measure => simp [intOf]; omega
      · have H0 := Lib.hid h0
        go_wp2_with (first
          | (go_at_call 211; refine (gradeOf_any k _ (by omega)).mono ?_; rintro e w' ⟨rfl, rfl⟩)
          | (at_builtin; refine wpList_app1 w _ 24 2 _ _ Tryz.underlying24 info_i rfl (by omega) rfl _ _ rfl (some ⟨g, 0, none⟩) l c' _ _ HM.out (by omega) rfl rfl rfl ?_; intro A2 c2 w2 hM2 _ hg2))
        obtain ⟨g2, rfl, _⟩ := hg2
        go_roundw
        case rel =>
          have e : colL xs (k + 1) = colL xs k ++ [((pc k : Nat) : Int)] := by rw [HS.out, H0.out]; rfl
          have el : (colL xs (k + 1)).length = l + 1 := by rw [e, List.length_append, HL.out]; rfl
          exact ⟨k + 1, g2, c2, by omega, by go_num, by rw [el], by rw [el, e]; simpa [MkI, ints] using hM2⟩
        case measure => simp [intOf]; omega
    · obtain rfl : k = m := by omega
      have hle := colL_le xs k
      go_wp2_with (first
        | (go_at_call 284; refine (sort_own _ _ _ _ _ _ hM (by omega)).mono ?_; rintro e w2 ⟨rfl, hM2, -⟩)
        | (go_at_call 285; refine (compact_own _ _ _ _ _ _ hM2 (by omega)).mono ?_; rintro e w3 ⟨rfl, hM3⟩))
      rw [HG.out] at hM3 ⊢
      go_ret
      exact ⟨_, _, rfl, hM3⟩
end Go.Proofs.YtggigolkncckoaaGreat
namespace Go.Proofs.YtggigolkncckoaaGreat
open Go.RowKit
theorem take_succ_eq (xs ys : List Int) (k : Nat) (hx : k < xs.length) (hy : k < ys.length) (h : xs.take k = ys.take k) (he : xs[k] = ys[k]) :
    xs.take (k + 1) = ys.take (k + 1) := by
  rw [List.take_succ_eq_append_getElem hx, List.take_succ_eq_append_getElem hy, h, he]
theorem ne_of_get (xs ys : List Int) (k : Nat) (hx : k < xs.length) (hy : k < ys.length) (he : (xs[k] != ys[k]) = true) : decide (xs = ys) = false := by
  rw [decide_eq_false_iff_not]
  rintro rfl
  simp at he
end Go.Proofs.YtggigolkncckoaaGreat
namespace Go.Proofs.YtggigolkncckoaaGreat
open Go.RowKit
theorem leadL_step {v : List Int} {k : Nat} (h : k ≤ leadL v) (hk : k < v.length) (h0 : v[k] = 0) : k + 1 ≤ leadL v := by
  rcases Nat.lt_or_ge k (leadL v) with h1 | h1
  · exact h1
  · have e : leadL v = k := by omega
    have := leadL_at v (by omega)
    rw [e, getD_of_lt 0 hk] at this
    exact absurd h0 this
theorem leadL_stop {v : List Int} {k : Nat} (h : k ≤ leadL v) (hk : k < v.length) (h0 : v[k] ≠ 0) : leadL v = k := by
  rcases Nat.lt_or_ge k (leadL v) with h1 | h1
  · have := leadL_before v k h1
    rw [getD_of_lt 0 hk] at this
    exact absurd this h0
  · omega
theorem leadL_end {v : List Int} {k : Nat} (h : k ≤ leadL v) (hk : k = v.length) : leadL v = v.length := by
  have := leadL_le v; omega
set_option maxHeartbeats 400000 in
theorem lead_any (A : Option Addr) (n c : Nat) (xs : List Int) (w : World) (hn : n ≤ 1099511627776) (ha : Rd w A n (ints xs)) :
    Calls Tryz.prog 243 #[.slice A n c] w fun e w' => e = .returned (.int .i64 (leadL xs)) ∧ w = w' := by
  have hxl : xs.length = n := by have := ha.1; rwa [ints_length] at this
  have Hx := Lib.hid hxl; clear hxl
  go_enter Tryz.func243, Tryz.ntmps243
  go_wp2
  go_loop [3] (fun i => ∃ k : Nat, k ≤ n ∧ i = .int .i64 k ∧ k ≤ leadL xs) (fun i => n - (intOf i).toNat)
  case atStart => exact ⟨0, by omega, rfl, by omega⟩
  case round =>
    obtain ⟨k, hk, rfl, ht⟩ := hrel
    have H := Lib.hid ht; clear ht
    by_cases hlt : k < n
    · obtain ⟨g, o, rfl, hx, hcx⟩ := ha.int hlt
      clear ha
      cases hi : (xs[k] == 0)
      all_goals
        have HI := Lib.hid hi
        go_wp2
      · go_ret
        exact ⟨ret_int (by rw [leadL_stop H.out hx (by simpa using HI.out)]), rfl⟩
      · go_round
        case rel => exact ⟨k + 1, by omega, by go_num, leadL_step H.out hx (by simpa using HI.out)⟩
        case measure => simp [intOf]; omega
    · go_wp2
      go_ret
      have := H.out
      exact ⟨ret_int (by rw [leadL_end this (by rw [Hx.out]; omega), Hx.out]; congr 1; omega), rfl⟩
/-- The first place with a number other than 0, or -1. -/
def firstL (xs : List Int) : Int := if leadL xs < xs.length then leadL xs else -1
set_option maxHeartbeats 400000 in
theorem l02First_any (A : Option Addr) (n c : Nat) (xs : List Int) (w : World) (hn : n ≤ 1099511627776) (ha : Rd w A n (ints xs)) :
    Calls Tryz.prog 241 #[.slice A n c] w fun e w' => e = .returned (.int .i64 (firstL xs)) ∧ w = w' := by
  have hxl : xs.length = n := by have := ha.1; rwa [ints_length] at this
  have Hx := Lib.hid hxl; clear hxl
  go_enter Tryz.func241, Tryz.ntmps241
  go_wp2
  go_loop [3] (fun i => ∃ k : Nat, k ≤ n ∧ i = .int .i64 k ∧ k ≤ leadL xs) (fun i => n - (intOf i).toNat)
  case atStart => exact ⟨0, by omega, rfl, by omega⟩
  case round =>
    obtain ⟨k, hk, rfl, ht⟩ := hrel
    have H := Lib.hid ht; clear ht
    by_cases hlt : k < n
    · obtain ⟨g, o, rfl, hx, hcx⟩ := ha.int hlt
      clear ha
      cases hi : (xs[k] != 0)
      all_goals
        have HI := Lib.hid hi
        go_wp2
      · go_round
        case rel => exact ⟨k + 1, by omega, by go_num, leadL_step H.out hx (by simpa using HI.out)⟩
        case measure => simp [intOf]; omega
      · go_ret
        exact ⟨ret_int (by unfold firstL; rw [leadL_stop H.out hx (by simpa using HI.out), if_pos hx]), rfl⟩
    · go_wp2
      go_ret
      have := H.out
      exact ⟨ret_int (by unfold firstL; rw [leadL_end this (by rw [Hx.out]; omega), if_neg (by omega)]), rfl⟩
/-- Are all numbers 0? -/
def zeroL (xs : List Int) : Bool := leadL xs == xs.length
set_option maxHeartbeats 400000 in
theorem isZero_any (A : Option Addr) (n c : Nat) (xs : List Int) (w : World) (hn : n ≤ 1099511627776) (ha : Rd w A n (ints xs)) :
    Calls Tryz.prog 235 #[.slice A n c] w fun e w' => e = .returned (.bool (zeroL xs)) ∧ w = w' := by
  have hxl : xs.length = n := by have := ha.1; rwa [ints_length] at this
  have Hx := Lib.hid hxl; clear hxl
  go_enter Tryz.func235, Tryz.ntmps235
  go_wp2_with (go_at_call 243; refine (lead_any _ _ _ _ _ hn ha).mono ?_; rintro e w' ⟨rfl, rfl⟩)
  go_ret
  refine ⟨ret_bool ?_, rfl⟩
  unfold zeroL
  rw [Hx.out, Bool.eq_iff_iff]
  simp
  omega
/-- The part of grade k. -/
def partG (xs : List Int) (k : Nat) : List Int := tab xs.length fun i => if pc i = k then xs.getD i 0 else 0
theorem partG_len (xs : List Int) (k : Nat) : (partG xs k).length = xs.length := tab_len _ _
theorem partG_getD {xs : List Int} {k i : Nat} (h : i < xs.length) : (partG xs k).getD i 0 = if pc i = k then xs.getD i 0 else 0 := tab_getD h 0
theorem partG_nums {p : Int} (hp : 0 < p) {xs : List Int} (h : NumsL p xs) (k : Nat) : NumsL p (partG xs k) := NumsL.tab fun i _ => by
  split
  · exact h.getD hp i
  · omega
theorem tab_pad_set {n k : Nat} {f : Nat → Int} (hk : k < n) : (tab k f ++ List.replicate (n - k) 0).set k (f k) = tab (k + 1) f ++ List.replicate (n - (k + 1)) 0 := by
  rw [List.set_append, if_neg (by rw [tab_len]; omega), tab_len, Nat.sub_self, tab_succ, List.append_assoc]
  congr 1
  obtain ⟨m, hm⟩ : ∃ m, n - k = m + 1 := ⟨n - k - 1, by omega⟩
  rw [hm, show n - (k + 1) = m by omega]
  simp [List.replicate_succ]
theorem tab_pad_zero {n k : Nat} {f : Nat → Int} (hk : k < n) (h0 : f k = 0) : tab k f ++ List.replicate (n - k) 0 = tab (k + 1) f ++ List.replicate (n - (k + 1)) 0 := by
  rw [tab_succ, List.append_assoc, h0]
  congr 1
  obtain ⟨m, hm⟩ : ∃ m, n - k = m + 1 := ⟨n - k - 1, by omega⟩
  rw [hm, show n - (k + 1) = m by omega]
  simp [List.replicate_succ]
set_option maxHeartbeats 800000 in
theorem l04Part_any (X : Option Addr) (m cx : Nat) (xs : List Int) (q : Nat) (w : World) (hm : m ≤ 64) (_hq : q ≤ 1000) (hx : Rd w X m (ints xs)) :
    Calls Tryz.prog 286 #[.slice X m cx, .int .i64 q] w fun e w' => ∃ A' c', e = .returned (.slice A' m c') ∧ MkI w w' A' m c' (partG xs q) := by
  have hxl : xs.length = m := by have := hx.1; rwa [ints_length] at this
  have hmk := make_i (P := Tryz.prog) 24 2 Tryz.underlying24 info_i m (by omega)
  have hM0 := Mk.made (E := 2) (n := m) (z := .int .i64 0) (Below.refl w.heap.size w) (by simp only [maxLen]; omega)
  rw [ints_replicate] at hM0
  have HP : Hid (partG xs q = tab m fun i => if pc i = q then xs.getD i 0 else 0) := Lib.hid (by unfold partG; rw [hxl])
  clear hxl
  go_enter Tryz.func286, Tryz.ntmps286
  go_wp2
  clear hmk
  go_loopw [6] (fun i wr => ∃ k : Nat, k ≤ m ∧ i = .int .i64 k ∧ MkI w wr (some ⟨w.heap.size, 0, none⟩) m m ((tab k fun i => if pc i = q then xs.getD i 0 else 0) ++ List.replicate (m - k) 0)) (fun i _ => m - (intOf i).toNat)
  case atStart => exact ⟨0, by omega, rfl, by simpa [tab] using hM0⟩
  case round =>
    obtain ⟨k, hk, rfl, hM⟩ := hrel
    clear hM0
    by_cases hlt : k < m
    · obtain ⟨gx, ox, rfl, hxk, hcx⟩ := (hx.below hM.b).int hlt
      by_cases hpc : pc k = q
      · have hb : (((pc k : Nat) : Int) == (q : Int)) = true := by simp [hpc]
        have hset := (hM.set k (.int .i64 xs[k])).1
        have hf : ((tab k fun i => if pc i = q then xs.getD i 0 else 0) ++ List.replicate (m - k) 0).set k xs[k] = (tab (k + 1) fun i => if pc i = q then xs.getD i 0 else 0) ++ List.replicate (m - (k + 1)) 0 := by
          rw [← tab_pad_set hlt]; simp only [hpc, if_true]; rw [getD_of_lt 0 hxk]
        obtain ⟨hoc, hof⟩ := mkI_at hM hlt
        rw [ints_set, hf] at hset
        have HS := Lib.hid hset
        clear hset hM hpc hf
        go_wp2_with (go_at_call 215; refine (l04Grade_any k _ (by omega)).mono ?_; rintro e w' ⟨rfl, rfl⟩)
        go_roundw
        case rel => exact ⟨k + 1, by omega, by go_num, HS.out⟩
        case measure => simp [intOf]; omega
      · have hb : (((pc k : Nat) : Int) == (q : Int)) = false := by simp; omega
        have HS := Lib.hid (tab_pad_zero (f := fun i => if pc i = q then xs.getD i 0 else 0) hlt (if_neg hpc) ▸ hM)
        clear hM hpc
        go_wp2_with (go_at_call 215; refine (l04Grade_any k _ (by omega)).mono ?_; rintro e w' ⟨rfl, rfl⟩)
        go_roundw
        case rel => exact ⟨k + 1, by omega, by go_num, HS.out⟩
        case measure => simp [intOf]; omega
    · obtain rfl : k = m := by omega
      go_wp2
      go_ret
      exact ⟨_, _, rfl, by rw [HP.out]; simpa using hM⟩
end Go.Proofs.YtggigolkncckoaaGreat
namespace Go.Proofs.YtggigolkncckoaaGreat
open Go.RowKit
set_option maxRecDepth 8000 in
set_option maxHeartbeats 400000 in
theorem clone_any (A : Option Addr) (n c : Nat) (xs : List Int) (w : World) (hn : n ≤ 65536) (ha : Rd w A n (ints xs)) :
    Calls Tryz.prog 345 #[.slice A n c] w fun e w' => ∃ A' c', e = .returned (.slice A' n c') ∧ MkI w w' A' n c' xs := by
  have hxl : xs.length = n := by have := ha.1; rwa [ints_length] at this
  cases A with
  | none =>
    have h0 : n = 0 := by
      rcases Nat.eq_zero_or_pos n with h | h
      · exact h
      · obtain ⟨g, o, e, _⟩ := ha.2 h; cases e
    subst h0
    have hxs : xs = [] := List.eq_nil_of_length_eq_zero hxl
    subst hxs
    clear ha hxl hn
    have hq := fun w : World => Lib.run_eql_slice_nil (P := Tryz.prog) w 24 2 none 0 c 0 0 Tryz.underlying24
    simp only [Option.isNone_none] at hq
    go_enter Tryz.func345, Tryz.ntmps345
    go_wp2
    go_ret
    exact ⟨none, 0, rfl, Mk.nil (Below.refl _ _)⟩
  | some p =>
    have hM0 := Mk.lit (E := 2) (Below.refl w.heap.size w) #[] (by simp)
    obtain ⟨i, hi, h1, h2, h3⟩ := info_parts info_i
    obtain ⟨b1, b2⟩ := bound_of (Nat.le_trans hn (by decide))
    clear b1
    have HB := Lib.hid b2
    clear b2
    have hnews : ∀ (j : Nat) (u : Value), (ints xs)[j]? = some u → (w.alloc (.cells #[] 2)).cell? (p.add j) = some u := fun j u hu => by
      have hj : j < n := by have := (List.getElem?_eq_some_iff.1 hu).1; rw [ints_length] at this; omega
      obtain ⟨g, o, e, hc⟩ := (ha.below ((Below.refl _ w).alloc (Nat.le_refl _) (.cells #[] 2))).2 (by omega)
      injection e with e; subst e
      rw [Addr.add_lit]
      exact hc j u hu
    have Hx := Lib.hid hxl
    have HN := Lib.hid hnews
    have HI := Lib.hid hi
    have H1 := Lib.hid h1
    have H2 := Lib.hid h2
    have H3 := Lib.hid h3
    clear hnews hi h1 h2 h3 hxl
    have hq := fun w : World => Lib.run_eql_slice_nil (P := Tryz.prog) w 24 2 (some p) n c 0 0 Tryz.underlying24
    simp only [Option.isNone_some] at hq
    go_enter Tryz.func345, Tryz.ntmps345
    go_wp2_with (at_builtin; refine wpList_append_own_at (w.alloc (.cells #[] 2)) rfl _ _ 24 rfl w.heap.size 2 i _ 1 8 Tryz.underlying24 HI.out H1.out H2.out H3.out rfl (by omega) (.slice (some ⟨w.heap.size, 0, none⟩) 0 0) 0 [] rfl hM0.2 p n c (ints xs) rfl (by rw [ints_length, Hx.out, Nat.mul_one]) HN.out (by intro u hu; obtain ⟨y, _, rfl⟩ := List.mem_map.1 hu; rfl) (by simp only [maxLen]; omega) (by have := HB.out 8 (by omega); omega) (by simp) ?_; intro v' w' hown hg _ _)
    have hb' : Below w.heap.size w w' := hM0.1.grown hg (by simp) (fun k hk => (hM0.2.lt k hk).1)
    rw [Nat.zero_add, List.nil_append] at hown
    rcases hown.2 with ⟨rfl, h0⟩ | ⟨g, cap, cur, rfl, hr⟩
    · subst h0
      go_ret
      exact ⟨none, 0, rfl, hb', hown⟩
    · go_ret
      exact ⟨_, _, rfl, hb', hown⟩
def oddT (k : Nat) : Bool := k % 2 == 1
end Go.Proofs.YtggigolkncckoaaGreat
namespace Go.Proofs.YtggigolkncckoaaGreat
open Go.RowKit
theorem mul_range {x k : Int} (x1 : 0 ≤ x) (x2 : x ≤ 13) (k1 : -1000 ≤ k) (k2 : k ≤ 1000) : -13000 ≤ k * x ∧ k * x ≤ 13000 := by
  have h1 := Int.mul_le_mul_of_nonneg_right k2 x1
  have h2 := Int.mul_le_mul_of_nonneg_right k1 x1
  omega
set_option maxHeartbeats 800000 in
theorem plus_any (p : Int) (A : Option Addr) (n c : Nat) (B : Option Addr) (m d : Nat) (k : Int) (xs ys : List Int) (w : World) (hp : 2 ≤ p) (hp2 : p ≤ 13) (hn : n ≤ 65536) (hnm : n ≤ m) (ha : Rd w A n (ints xs)) (hx : NumsL p xs) (hb : Rd w B m (ints ys)) (hy : NumsL p ys) (hk1 : -1000 ≤ k) (hk2 : k ≤ 1000) :
    Calls Tryz.prog 153 #[.int .i64 p, .slice A n c, .slice B m d, .int .i64 k] w fun e w' => ∃ A' c', e = .returned (.slice A' n c') ∧ MkI w w' A' n c' (plusL p xs ys k) := by
  have hxl : xs.length = n := by have := ha.1; rwa [ints_length] at this
  have Hx := Lib.hid hxl; clear hxl
  have hM0 := Mk.lit (E := 2) (Below.refl w.heap.size w) #[] (by simp)
  go_enter Tryz.func153, Tryz.ntmps153
  go_wp2
  go_loopw [9, 10, 11, 15] (fun out _ _ i wr => ∃ (j : Nat) (A' : Option Addr) (c' : Nat), j ≤ n ∧ i = .int .i64 j ∧ out = .slice A' j c' ∧ MkI w wr A' j c' (tab j fun i => (xs.getD i 0 + k * ys.getD i 0) % p)) (fun _ _ _ i _ => n - (intOf i).toNat)
  case atStart => exact ⟨0, _, _, by omega, rfl, rfl, by simpa [MkI, ints, tab] using hM0⟩
  case round =>
    obtain ⟨j, A', c', hj, rfl, rfl, hM⟩ := hrel
    clear hM0
    by_cases hlt : j < n
    · obtain ⟨g, o, rfl, hxj, hcx⟩ := (ha.below hM.b).int hlt
      obtain ⟨g2, o2, rfl, hyj, hcy⟩ := (hb.below hM.b).int (show j < m by omega)
      obtain ⟨x1, x2⟩ := hx _ (List.getElem_mem hxj)
      obtain ⟨y1, y2⟩ := hy _ (List.getElem_mem hyj)
      obtain ⟨m1, m2⟩ := mul_range y1 (show ys[j] ≤ 13 by omega) hk1 hk2
      have HV : Hid ((tab (j + 1) fun i => (xs.getD i 0 + k * ys.getD i 0) % p) = (tab j fun i => (xs.getD i 0 + k * ys.getD i 0) % p) ++ [(xs[j] + k * ys[j]) % p]) := Lib.hid (by rw [tab_succ, getD_of_lt 0 hxj, getD_of_lt 0 hyj])
      have HM := Lib.hid hM
      clear ha hb hM
      go_wp2_with (first
        | (go_at_call 200; refine (num_any _ (xs[j] + k * ys[j]) _ (by omega) hp2 (by omega) (by omega)).mono ?_; rintro e w' ⟨rfl, rfl⟩)
        | (at_builtin; refine wpList_app1 w _ 24 2 _ _ Tryz.underlying24 info_i rfl (by omega) rfl _ _ rfl A' j c' _ _ HM.out (by omega) rfl rfl rfl ?_; intro A2 c2 w2 hM2 _ _))
      go_roundw
      case rel => exact ⟨j + 1, A2, c2, by omega, by go_num, rfl, by rw [HV.out]; simpa [MkI, ints] using hM2⟩
      case measure => simp [intOf]; omega
    · go_wp2
      go_ret
      obtain rfl : j = n := by omega
      exact ⟨_, _, rfl, by unfold plusL; rw [Hx.out]; exact hM⟩
set_option maxHeartbeats 1600000 in
set_option maxRecDepth 8000 in
theorem l02Plus_any (p : Int) (A : Option Addr) (n c : Nat) (B : Option Addr) (m d : Nat) (k : Int) (xs ys : List Int) (w : World) (hp : 2 ≤ p) (hp2 : p ≤ 13) (hn : n ≤ 65536) (hnm : n ≤ m) (ha : Rd w A n (ints xs)) (hx : NumsL p xs) (hb : Rd w B m (ints ys)) (hy : NumsL p ys) (hk1 : 0 ≤ k) (hk2 : k ≤ 1000) :
    Calls Tryz.prog 158 #[.int .i64 p, .slice A n c, .slice B m d, .int .i64 k] w fun e w' => ∃ A' c', e = .returned (.slice A' n c') ∧ MkI w w' A' n c' (plusL p xs ys k) := by
  have hxl : xs.length = n := by have := ha.1; rwa [ints_length] at this
  have Hx := Lib.hid hxl; clear hxl
  have hM0 := Mk.lit (E := 2) (Below.refl w.heap.size w) #[] (by simp)
  go_enter Tryz.func158, Tryz.ntmps158
  go_wp2
  go_loopw [9, 10] (fun out i wr => ∃ (j : Nat) (A' : Option Addr) (c' : Nat), j ≤ n ∧ i = .int .i64 j ∧ out = .slice A' j c' ∧ MkI w wr A' j c' (tab j fun i => (xs.getD i 0 + k * ys.getD i 0) % p)) (fun _ i _ => n - (intOf i).toNat)
  case atStart => exact ⟨0, _, _, by omega, rfl, rfl, by simpa [MkI, ints, tab] using hM0⟩
  case round =>
    obtain ⟨j, A', c', hj, rfl, rfl, hM⟩ := hrel
    clear hM0
    by_cases hlt : j < n
    · obtain ⟨g, o, rfl, hxj, hcx⟩ := (ha.below hM.b).int hlt
      obtain ⟨g2, o2, rfl, hyj, hcy⟩ := (hb.below hM.b).int (show j < m by omega)
      obtain ⟨x1, x2⟩ := hx _ (List.getElem_mem hxj)
      obtain ⟨y1, y2⟩ := hy _ (List.getElem_mem hyj)
      obtain ⟨m1, m2⟩ := mul_small hk1 hk2 y1 (show ys[j] ≤ 13 by omega)
      have HV : Hid ((tab (j + 1) fun i => (xs.getD i 0 + k * ys.getD i 0) % p) = (tab j fun i => (xs.getD i 0 + k * ys.getD i 0) % p) ++ [(xs[j] + k * ys[j]) % p]) := Lib.hid (by rw [tab_succ, getD_of_lt 0 hxj, getD_of_lt 0 hyj])
      have W1 := i64_fit (k * ys[j]) (by omega) (by omega)
      have W2 := i64_fit (xs[j] + k * ys[j]) (by omega) (by omega)
      have W3 : (xs[j] + k * ys[j]).tmod p = (xs[j] + k * ys[j]) % p := Int.tmod_eq_emod_of_nonneg (by omega)
      have i1 : (0 : Int) ≤ (j : Int) := by omega
      have hP0 : ¬ p = 0 := by omega
      have i2 : (j : Int) < (n : Int) := by omega
      have i3 : (j : Int) < (m : Int) := by omega
      go_wp2
      refine wp_obs 15 [[], [], [], [1, 2], [1, 2, 3], [], [], [], [6, 7], [6, 7, 8], [5, 6, 7, 8, 9], [1, 2, 3, 4, 5, 6, 7, 8, 9, 10], [], [1, 2, 3, 4, 5, 6, 7, 8, 9, 10, 11, 12], [1, 2, 3, 4, 5, 6, 7, 8, 9, 10, 11, 12, 13], [0, 1, 2, 3, 4, 5, 6, 7, 8, 9, 10, 11, 12, 13, 14], [0, 1, 2, 3, 4, 5, 6, 7, 8, 9, 10, 11, 12, 13, 14, 15]] [VIs (.slice A' j c'), VIs (.slice (some ⟨g, o, none⟩) n c), VIs (.int .i64 (j)), VIs (.pointer (some ⟨g, o + j, none⟩)), VIs (.int .i64 (xs[j])), VIs (.int .i64 (k)), VIs (.slice (some ⟨g2, o2, none⟩) m d), VIs (.int .i64 (j)), VIs (.pointer (some ⟨g2, o2 + j, none⟩)), VIs (.int .i64 (ys[j])), VIs (.int .i64 (k * ys[j])), VIs (.int .i64 (xs[j] + k * ys[j])), VIs (.int .i64 (p)), VIs (.int .i64 ((xs[j] + k * ys[j]) % p)), VBs 2 #[.int .i64 ((xs[j] + k * ys[j]) % p)]] (fun w' => MkI w w' A' j c' (tab j fun i => (xs.getD i 0 + k * ys.getD i 0) % p) ∧ w'.cell? ⟨g, o + j, none⟩ = some (.int .i64 xs[j]) ∧ w'.cell? ⟨g2, o2 + j, none⟩ = some (.int .i64 ys[j])) (by kernel_rfl) (by kernel_rfl) (fun _ _ h hb => ⟨h.1.below hb, (hb.cell (World.block_lt_of_cell? _ _ h.2.1)).trans h.2.1, (hb.cell (World.block_lt_of_cell? _ _ h.2.2)).trans h.2.2⟩) (⟨hM.drew, hcx, hcy⟩) (fun x => ?_)
      refine obs_step (Eq.trans (by simp only [List.getElem?_toArray, List.getElem?_cons_zero]; exact rfl) rfl) rfl (fun w' hS hV K hK => ?_) ?_
      · obtain ⟨_, q1, q2⟩ := hS
        go_simp
        exact hK.out _ _ _ rfl rfl rfl (Below.refl _ _)
      simp only [List.setIfInBounds_toArray, List.set_cons_zero, List.set_cons_succ]
      refine obs_step (Eq.trans (by simp only [List.getElem?_toArray, List.getElem?_cons_succ, List.getElem?_cons_zero]; exact rfl) rfl) rfl (fun w' hS hV K hK => ?_) ?_
      · obtain ⟨_, q1, q2⟩ := hS
        go_simp
        exact hK.out _ _ _ rfl rfl rfl (Below.refl _ _)
      simp only [List.setIfInBounds_toArray, List.set_cons_zero, List.set_cons_succ]
      refine obs_step (Eq.trans (by simp only [List.getElem?_toArray, List.getElem?_cons_succ, List.getElem?_cons_zero]; exact rfl) rfl) rfl (fun w' hS hV K hK => ?_) ?_
      · obtain ⟨_, q1, q2⟩ := hS
        go_simp
        exact hK.out _ _ _ rfl rfl rfl (Below.refl _ _)
      simp only [List.setIfInBounds_toArray, List.set_cons_zero, List.set_cons_succ]
      refine obs_step (Eq.trans (by simp only [List.getElem?_toArray, List.getElem?_cons_succ, List.getElem?_cons_zero]; exact rfl) rfl) rfl (fun w' hS hV K hK => ?_) ?_
      · have e1 : x 1 = (.slice (some ⟨g, o, none⟩) n c) := hV 1 (by decide)
        have e2 : x 2 = (.int .i64 (j)) := hV 2 (by decide)
        obtain ⟨_, q1, q2⟩ := hS
        go_simp
        exact hK.out _ _ _ rfl rfl rfl (Below.refl _ _)
      simp only [List.setIfInBounds_toArray, List.set_cons_zero, List.set_cons_succ]
      refine obs_step (Eq.trans (by simp only [List.getElem?_toArray, List.getElem?_cons_succ, List.getElem?_cons_zero]; exact rfl) rfl) rfl (fun w' hS hV K hK => ?_) ?_
      · have e1 : x 1 = (.slice (some ⟨g, o, none⟩) n c) := hV 1 (by decide)
        have e2 : x 2 = (.int .i64 (j)) := hV 2 (by decide)
        have e3 : x 3 = (.pointer (some ⟨g, o + j, none⟩)) := hV 3 (by decide)
        obtain ⟨_, q1, q2⟩ := hS
        go_simp
        exact hK.out _ _ _ rfl rfl rfl (Below.refl _ _)
      simp only [List.setIfInBounds_toArray, List.set_cons_zero, List.set_cons_succ]
      refine obs_step (Eq.trans (by simp only [List.getElem?_toArray, List.getElem?_cons_succ, List.getElem?_cons_zero]; exact rfl) rfl) rfl (fun w' hS hV K hK => ?_) ?_
      · obtain ⟨_, q1, q2⟩ := hS
        go_simp
        exact hK.out _ _ _ rfl rfl rfl (Below.refl _ _)
      simp only [List.setIfInBounds_toArray, List.set_cons_zero, List.set_cons_succ]
      refine obs_step (Eq.trans (by simp only [List.getElem?_toArray, List.getElem?_cons_succ, List.getElem?_cons_zero]; exact rfl) rfl) rfl (fun w' hS hV K hK => ?_) ?_
      · obtain ⟨_, q1, q2⟩ := hS
        go_simp
        exact hK.out _ _ _ rfl rfl rfl (Below.refl _ _)
      simp only [List.setIfInBounds_toArray, List.set_cons_zero, List.set_cons_succ]
      refine obs_step (Eq.trans (by simp only [List.getElem?_toArray, List.getElem?_cons_succ, List.getElem?_cons_zero]; exact rfl) rfl) rfl (fun w' hS hV K hK => ?_) ?_
      · obtain ⟨_, q1, q2⟩ := hS
        go_simp
        exact hK.out _ _ _ rfl rfl rfl (Below.refl _ _)
      simp only [List.setIfInBounds_toArray, List.set_cons_zero, List.set_cons_succ]
      refine obs_step (Eq.trans (by simp only [List.getElem?_toArray, List.getElem?_cons_succ, List.getElem?_cons_zero]; exact rfl) rfl) rfl (fun w' hS hV K hK => ?_) ?_
      · have e6 : x 6 = (.slice (some ⟨g2, o2, none⟩) m d) := hV 6 (by decide)
        have e7 : x 7 = (.int .i64 (j)) := hV 7 (by decide)
        obtain ⟨_, q1, q2⟩ := hS
        go_simp
        exact hK.out _ _ _ rfl rfl rfl (Below.refl _ _)
      simp only [List.setIfInBounds_toArray, List.set_cons_zero, List.set_cons_succ]
      refine obs_step (Eq.trans (by simp only [List.getElem?_toArray, List.getElem?_cons_succ, List.getElem?_cons_zero]; exact rfl) rfl) rfl (fun w' hS hV K hK => ?_) ?_
      · have e6 : x 6 = (.slice (some ⟨g2, o2, none⟩) m d) := hV 6 (by decide)
        have e7 : x 7 = (.int .i64 (j)) := hV 7 (by decide)
        have e8 : x 8 = (.pointer (some ⟨g2, o2 + j, none⟩)) := hV 8 (by decide)
        obtain ⟨_, q1, q2⟩ := hS
        go_simp
        exact hK.out _ _ _ rfl rfl rfl (Below.refl _ _)
      simp only [List.setIfInBounds_toArray, List.set_cons_zero, List.set_cons_succ]
      refine obs_step (Eq.trans (by simp only [List.getElem?_toArray, List.getElem?_cons_succ, List.getElem?_cons_zero]; exact rfl) rfl) rfl (fun w' hS hV K hK => ?_) ?_
      · have e5 : x 5 = (.int .i64 (k)) := hV 5 (by decide)
        have e6 : x 6 = (.slice (some ⟨g2, o2, none⟩) m d) := hV 6 (by decide)
        have e7 : x 7 = (.int .i64 (j)) := hV 7 (by decide)
        have e8 : x 8 = (.pointer (some ⟨g2, o2 + j, none⟩)) := hV 8 (by decide)
        have e9 : x 9 = (.int .i64 (ys[j])) := hV 9 (by decide)
        obtain ⟨_, q1, q2⟩ := hS
        go_simp
        exact hK.out _ _ _ rfl rfl rfl (Below.refl _ _)
      simp only [List.setIfInBounds_toArray, List.set_cons_zero, List.set_cons_succ]
      refine obs_step (Eq.trans (by simp only [List.getElem?_toArray, List.getElem?_cons_succ, List.getElem?_cons_zero]; exact rfl) rfl) rfl (fun w' hS hV K hK => ?_) ?_
      · have e1 : x 1 = (.slice (some ⟨g, o, none⟩) n c) := hV 1 (by decide)
        have e2 : x 2 = (.int .i64 (j)) := hV 2 (by decide)
        have e3 : x 3 = (.pointer (some ⟨g, o + j, none⟩)) := hV 3 (by decide)
        have e4 : x 4 = (.int .i64 (xs[j])) := hV 4 (by decide)
        have e5 : x 5 = (.int .i64 (k)) := hV 5 (by decide)
        have e6 : x 6 = (.slice (some ⟨g2, o2, none⟩) m d) := hV 6 (by decide)
        have e7 : x 7 = (.int .i64 (j)) := hV 7 (by decide)
        have e8 : x 8 = (.pointer (some ⟨g2, o2 + j, none⟩)) := hV 8 (by decide)
        have e9 : x 9 = (.int .i64 (ys[j])) := hV 9 (by decide)
        have e10 : x 10 = (.int .i64 (k * ys[j])) := hV 10 (by decide)
        obtain ⟨_, q1, q2⟩ := hS
        go_simp
        exact hK.out _ _ _ rfl rfl rfl (Below.refl _ _)
      simp only [List.setIfInBounds_toArray, List.set_cons_zero, List.set_cons_succ]
      refine obs_step (Eq.trans (by simp only [List.getElem?_toArray, List.getElem?_cons_succ, List.getElem?_cons_zero]; exact rfl) rfl) rfl (fun w' hS hV K hK => ?_) ?_
      · obtain ⟨_, q1, q2⟩ := hS
        go_simp
        exact hK.out _ _ _ rfl rfl rfl (Below.refl _ _)
      simp only [List.setIfInBounds_toArray, List.set_cons_zero, List.set_cons_succ]
      refine obs_step (Eq.trans (by simp only [List.getElem?_toArray, List.getElem?_cons_succ, List.getElem?_cons_zero]; exact rfl) rfl) rfl (fun w' hS hV K hK => ?_) ?_
      · have e1 : x 1 = (.slice (some ⟨g, o, none⟩) n c) := hV 1 (by decide)
        have e2 : x 2 = (.int .i64 (j)) := hV 2 (by decide)
        have e3 : x 3 = (.pointer (some ⟨g, o + j, none⟩)) := hV 3 (by decide)
        have e4 : x 4 = (.int .i64 (xs[j])) := hV 4 (by decide)
        have e5 : x 5 = (.int .i64 (k)) := hV 5 (by decide)
        have e6 : x 6 = (.slice (some ⟨g2, o2, none⟩) m d) := hV 6 (by decide)
        have e7 : x 7 = (.int .i64 (j)) := hV 7 (by decide)
        have e8 : x 8 = (.pointer (some ⟨g2, o2 + j, none⟩)) := hV 8 (by decide)
        have e9 : x 9 = (.int .i64 (ys[j])) := hV 9 (by decide)
        have e10 : x 10 = (.int .i64 (k * ys[j])) := hV 10 (by decide)
        have e11 : x 11 = (.int .i64 (xs[j] + k * ys[j])) := hV 11 (by decide)
        have e12 : x 12 = (.int .i64 (p)) := hV 12 (by decide)
        obtain ⟨_, q1, q2⟩ := hS
        go_simp
        exact hK.out _ _ _ rfl rfl rfl (Below.refl _ _)
      simp only [List.setIfInBounds_toArray, List.set_cons_zero, List.set_cons_succ]
      refine obs_step (Eq.trans (by simp only [List.getElem?_toArray, List.getElem?_cons_succ, List.getElem?_cons_zero]; exact rfl) rfl) rfl (fun w' hS hV K hK => ?_) ?_
      · have e1 : x 1 = (.slice (some ⟨g, o, none⟩) n c) := hV 1 (by decide)
        have e2 : x 2 = (.int .i64 (j)) := hV 2 (by decide)
        have e3 : x 3 = (.pointer (some ⟨g, o + j, none⟩)) := hV 3 (by decide)
        have e4 : x 4 = (.int .i64 (xs[j])) := hV 4 (by decide)
        have e5 : x 5 = (.int .i64 (k)) := hV 5 (by decide)
        have e6 : x 6 = (.slice (some ⟨g2, o2, none⟩) m d) := hV 6 (by decide)
        have e7 : x 7 = (.int .i64 (j)) := hV 7 (by decide)
        have e8 : x 8 = (.pointer (some ⟨g2, o2 + j, none⟩)) := hV 8 (by decide)
        have e9 : x 9 = (.int .i64 (ys[j])) := hV 9 (by decide)
        have e10 : x 10 = (.int .i64 (k * ys[j])) := hV 10 (by decide)
        have e11 : x 11 = (.int .i64 (xs[j] + k * ys[j])) := hV 11 (by decide)
        have e12 : x 12 = (.int .i64 (p)) := hV 12 (by decide)
        have e13 : x 13 = (.int .i64 ((xs[j] + k * ys[j]) % p)) := hV 13 (by decide)
        obtain ⟨_, q1, q2⟩ := hS
        go_simp
        exact hK.out _ _ _ rfl rfl ⟨_, rfl, Blk.new _ _ _⟩ ((Below.refl _ _).alloc (Nat.le_refl _) _)
      simp only [List.setIfInBounds_toArray, List.set_cons_zero, List.set_cons_succ]
      refine fun w' hS hV => ?_
      have e0 : x 0 = (.slice A' j c') := hV 0 (by decide)
      have e1 : x 1 = (.slice (some ⟨g, o, none⟩) n c) := hV 1 (by decide)
      have e2 : x 2 = (.int .i64 (j)) := hV 2 (by decide)
      have e3 : x 3 = (.pointer (some ⟨g, o + j, none⟩)) := hV 3 (by decide)
      have e4 : x 4 = (.int .i64 (xs[j])) := hV 4 (by decide)
      have e5 : x 5 = (.int .i64 (k)) := hV 5 (by decide)
      have e6 : x 6 = (.slice (some ⟨g2, o2, none⟩) m d) := hV 6 (by decide)
      have e7 : x 7 = (.int .i64 (j)) := hV 7 (by decide)
      have e8 : x 8 = (.pointer (some ⟨g2, o2 + j, none⟩)) := hV 8 (by decide)
      have e9 : x 9 = (.int .i64 (ys[j])) := hV 9 (by decide)
      have e10 : x 10 = (.int .i64 (k * ys[j])) := hV 10 (by decide)
      have e11 : x 11 = (.int .i64 (xs[j] + k * ys[j])) := hV 11 (by decide)
      have e12 : x 12 = (.int .i64 (p)) := hV 12 (by decide)
      have e13 : x 13 = (.int .i64 ((xs[j] + k * ys[j]) % p)) := hV 13 (by decide)
      obtain ⟨b14, e14, h14⟩ := hV 14 (by decide)
      simp only [e0, e1, e2, e3, e4, e5, e6, e7, e8, e9, e10, e11, e12, e13, e14]
      clear e0 e1 e2 e3 e4 e5 e6 e7 e8 e9 e10 e11 e12 e13 e14
      obtain ⟨s1, s2, s3⟩ := hS
      refine any_plain (j := 15) (by kernel_rfl) (Eq.trans (by simp only [List.getElem?_toArray, List.getElem?_cons_succ, List.getElem?_cons_zero]; exact rfl) rfl) rfl (fun K hK => ?_)
      refine wp_app1 w w' 24 2 _ _ Tryz.underlying24 info_i rfl (by omega) _ _ rfl A' j c' _ _ s1 (by omega) rfl _ h14 (by rfl) (by rfl) ?_
      intro A2 c2 w2 hM2 hgr
      refine hK.out _ _ ?_
      simp only [Act.put, List.setIfInBounds_toArray, List.set_cons_zero, List.set_cons_succ]
      refine any_one (j := 16) (by kernel_rfl) (Eq.trans (by simp only [List.getElem?_toArray, List.getElem?_cons_succ, List.getElem?_cons_zero]; exact rfl) rfl) (fun K hK => ?_)
      go_simp
      refine hK.out _ _ (wpAny_done (by kernel_rfl) ?_ _)
      clear W1 W2 W3 s2 s3 hM
      go_wp2
      go_roundw
      case rel => exact ⟨j + 1, A2, c2, by omega, by go_num, rfl, by rw [HV.out]; simpa [MkI, ints] using hM2⟩
      case measure => simp [intOf]; omega
    · go_wp2
      go_ret
      obtain rfl : j = n := by omega
      exact ⟨_, _, rfl, by unfold plusL; rw [Hx.out]; exact hM⟩
end Go.Proofs.YtggigolkncckoaaGreat
namespace Go.Proofs.YtggigolkncckoaaGreat
open Go.RowKit
theorem ent_at' {M : List (List Int)} {i k : Nat} (hi : i < M.length) (hk : k < M[i].length) : ent M i k = M[i][k] := by
  unfold ent
  rw [getD_of_lt [] hi, getD_of_lt 0 hk]
theorem i64_small {x : Int} (h1 : -1000000 ≤ x) (h2 : x ≤ 1000000) : IntKind.i64.wrap x = x := i64_fit x (by omega) (by omega)
theorem clearTo_same {p : Int} {m : List (List Int)} {d k j : Nat} (hj : j < m.length) (h0 : ent m j k = 0) (hN : NumsL p (m.getD j [])) : clearTo p m d k (j + 1) = clearTo p m d k j := by
  refine tab_congr fun r _ => ?_
  by_cases hr : r = j
  · subst hr
    by_cases hd : r = d
    · rw [if_neg (fun h => h.2 hd), if_neg (fun h => h.2 hd)]
    · rw [if_pos ⟨by omega, hd⟩, if_neg (by omega), h0]
      exact plusL_zero _ _ hN
  · by_cases hd : r = d
    · rw [if_neg (fun h => h.2 hd), if_neg (fun h => h.2 hd)]
    · by_cases hl : r < j
      · rw [if_pos ⟨by omega, hd⟩, if_pos ⟨hl, hd⟩]
      · rw [if_neg (by omega), if_neg (by omega)]
theorem keepR3 {B : Nat} {W0 w1 w2 : World} {p q r : Addr} {u v x : Value} (h : w1.cell? p = some u ∧ w1.cell? q = some v ∧ w1.cell? r = some x ∧ Below B W0 w1) (hb : Below w1.heap.size w1 w2) (hB : B ≤ W0.heap.size) :
    w2.cell? p = some u ∧ w2.cell? q = some v ∧ w2.cell? r = some x ∧ Below B W0 w2 :=
  ⟨(hb.cell (World.block_lt_of_cell? _ _ h.1)).trans h.1, (hb.cell (World.block_lt_of_cell? _ _ h.2.1)).trans h.2.1, (hb.cell (World.block_lt_of_cell? _ _ h.2.2.1)).trans h.2.2.1, h.2.2.2.trans (hb.mono (Nat.le_trans hB h.2.2.2.size))⟩
set_option maxRecDepth 8000 in
set_option maxHeartbeats 400000 in
theorem l01Own_any (A : Option Addr) (n c : Nat) (xs : List Int) (w : World) (hn : n ≤ 65536) (ha : Rd w A n (ints xs)) :
    Calls Tryz.prog 268 #[.slice A n c] w fun e w' => ∃ A' c', e = .returned (.slice A' n c') ∧ MkI w w' A' n c' xs := by
  have hxl : xs.length = n := by have := ha.1; rwa [ints_length] at this
  have hM0 := Mk.lit (E := 2) (Below.refl w.heap.size w) #[] (by simp)
  obtain ⟨i, hi, h1, h2, h3⟩ := info_parts info_i
  obtain ⟨b1, b2⟩ := bound_of (Nat.le_trans hn (by decide))
  clear b1
  have HB := Lib.hid b2
  clear b2
  obtain ⟨p, hnews⟩ : ∃ p : Addr, (∀ (j : Nat) (u : Value), (ints xs)[j]? = some u → (w.alloc (.cells #[] 2)).cell? (p.add j) = some u) ∧ (A = some p ∨ (A = none ∧ n = 0)) := by
    cases A with
    | none =>
      have h0 : n = 0 := by
        rcases Nat.eq_zero_or_pos n with h | h
        · exact h
        · obtain ⟨g, o, e, _⟩ := ha.2 h; cases e
      exact ⟨⟨0, 0, none⟩, fun j u hu => by have := (List.getElem?_eq_some_iff.1 hu).1; rw [ints_length] at this; omega, .inr ⟨rfl, h0⟩⟩
    | some p =>
      refine ⟨p, fun j u hu => ?_, .inl rfl⟩
      have hj : j < n := by have := (List.getElem?_eq_some_iff.1 hu).1; rw [ints_length] at this; omega
      obtain ⟨g, o, e, hc⟩ := (ha.below ((Below.refl _ w).alloc (Nat.le_refl _) (.cells #[] 2))).2 (by omega)
      injection e with e; subst e
      rw [Addr.add_lit]
      exact hc j u hu
  have Hx := Lib.hid hxl
  have HI := Lib.hid hi
  have H1 := Lib.hid h1
  have H2 := Lib.hid h2
  have H3 := Lib.hid h3
  have HN := Lib.hid hnews.1
  have hA := hnews.2
  clear hnews hi h1 h2 h3 hxl
  rcases hA with rfl | ⟨rfl, rfl⟩
  · go_enter Tryz.func268, Tryz.ntmps268
    go_wp2_with (at_builtin; refine wpList_append_own_at (w.alloc (.cells #[] 2)) rfl _ _ 24 rfl w.heap.size 2 i _ 1 8 Tryz.underlying24 HI.out H1.out H2.out H3.out rfl (by omega) (.slice (some ⟨w.heap.size, 0, none⟩) 0 0) 0 [] rfl hM0.2 p n c (ints xs) rfl (by rw [ints_length, Hx.out, Nat.mul_one]) HN.out (by intro u hu; obtain ⟨y, _, rfl⟩ := List.mem_map.1 hu; rfl) (by simp only [maxLen]; omega) (by have := HB.out 8 (by omega); omega) (by simp) ?_; intro v' w' hown hg _ _)
    have hb' : Below w.heap.size w w' := hM0.1.grown hg (by simp) (fun k hk => (hM0.2.lt k hk).1)
    rw [Nat.zero_add, List.nil_append] at hown
    rcases hown.2 with ⟨rfl, h0⟩ | ⟨g, cap, cur, rfl, hr⟩
    · subst h0
      go_ret
      exact ⟨none, 0, rfl, hb', hown⟩
    · go_ret
      exact ⟨_, _, rfl, hb', hown⟩
  · have hxs : xs = [] := List.eq_nil_of_length_eq_zero Hx.out
    subst hxs
    go_enter Tryz.func268, Tryz.ntmps268
    go_wp2
    go_ret
    exact ⟨_, _, rfl, hM0⟩
set_option maxHeartbeats 1600000 in
set_option maxRecDepth 8000 in
theorem cloneRows_any (p : Int) (A : Option Addr) (n c : Nat) (M : List (List Int)) (m : Nat) (w : World) (hn : n ≤ 65536) (hm : m ≤ 65536) (ha : RdII w A n M) (hT : Tab p m M) :
    Calls Tryz.prog 273 #[.slice A n c] w fun e w' => ∃ A' c', e = .returned (.slice A' n c') ∧ MkII w w' A' n c' M := by
  have hML := ha.len
  have HT := Lib.hid hT
  have HML := Lib.hid hML
  have hM0 : MkII w (w.alloc (.cells #[] 24)) (some ⟨w.heap.size, 0, none⟩) 0 0 [] := MkII.empty (Below.refl _ _)
  clear hT hML
  go_enter Tryz.func273, Tryz.ntmps273
  go_wp2
  obtain ⟨w1, hw1⟩ : ∃ W, W = w.alloc (.cells #[] 24) := ⟨_, rfl⟩
  rw [← hw1] at hM0 ⊢
  clear hw1
  go_loopw [3, 5, 9] (fun out _ i wr => ∃ (k : Nat) (A' : Option Addr) (c' : Nat), k ≤ n ∧ i = .int .i64 k ∧ out = .slice A' k c' ∧ MkII w wr A' k c' (M.take k)) (fun _ _ i _ => n - (intOf i).toNat)
  case atStart => exact ⟨0, _, _, by omega, rfl, rfl, by simpa using hM0⟩
  case round =>
    obtain ⟨k, A', c', hk, rfl, rfl, hM⟩ := hrel
    clear hM0
    by_cases hlt : k < n
    · obtain ⟨g, o, rfl, hxk, A1, c1, hcx, hr1, _⟩ := (ha.below hM.b).at_ hlt
      have hl1 : M[k].length = m := (HT.out M[k] (List.getElem_mem hxk)).1
      rw [hl1] at hcx hr1
      have hcall := clone_any A1 m c1 M[k] wr hm hr1
      have HV : Hid (M.take (k + 1) = M.take k ++ [M[k]]) := Lib.hid (List.take_succ_eq_append_getElem hxk)
      have HM := Lib.hid hM
      clear hM hr1 hl1 ha
      go_wp2_with fail
      refine hcall.mono ?_
      rintro e w5 ⟨A5, c5, rfl, hM5⟩
      clear hcall
      go_wp2_with (at_builtin; refine wpList_appRow w wr _ rfl _ _ rfl A' k c' _ A5 m c5 _ HM.out hM5 (by omega) rfl ?_ ?_; (go_simp); intro A6 c6 w6 hM6)
      go_roundw
      case rel => exact ⟨k + 1, A6, c6, by omega, by go_num, rfl, by rw [HV.out]; exact hM6⟩
      case measure => simp [intOf]; omega
    · obtain rfl : k = n := by omega
      go_wp2
      go_ret
      rw [List.take_of_length_le (by rw [HML.out]; exact Nat.le_refl _)] at hM
      exact ⟨_, _, rfl, hM⟩
set_option maxHeartbeats 1600000 in
set_option maxRecDepth 8000 in
theorem l01Own2_any (p : Int) (A : Option Addr) (n c : Nat) (M : List (List Int)) (m : Nat) (w : World) (hn : n ≤ 65536) (hm : m ≤ 65536) (ha : RdII w A n M) (hT : Tab p m M) :
    Calls Tryz.prog 219 #[.slice A n c] w fun e w' => ∃ A' c', e = .returned (.slice A' n c') ∧ MkII w w' A' n c' M := by
  have hML := ha.len
  have HT := Lib.hid hT
  have HML := Lib.hid hML
  have hM0 : MkII w (w.alloc (.cells #[] 24)) (some ⟨w.heap.size, 0, none⟩) 0 0 [] := MkII.empty (Below.refl _ _)
  clear hT hML
  go_enter Tryz.func219, Tryz.ntmps219
  go_wp2
  obtain ⟨w1, hw1⟩ : ∃ W, W = w.alloc (.cells #[] 24) := ⟨_, rfl⟩
  rw [← hw1] at hM0 ⊢
  clear hw1
  go_loopw [3, 4] (fun out i wr => ∃ (k : Nat) (A' : Option Addr) (c' : Nat), k ≤ n ∧ i = .int .i64 k ∧ out = .slice A' k c' ∧ MkII w wr A' k c' (M.take k)) (fun _ i _ => n - (intOf i).toNat)
  case atStart => exact ⟨0, _, _, by omega, rfl, rfl, by simpa using hM0⟩
  case round =>
    obtain ⟨k, A', c', hk, rfl, rfl, hM⟩ := hrel
    clear hM0
    by_cases hlt : k < n
    · obtain ⟨g, o, rfl, hxk, A1, c1, hcx, hr1, _⟩ := (ha.below hM.b).at_ hlt
      have hl1 : M[k].length = m := (HT.out M[k] (List.getElem_mem hxk)).1
      rw [hl1] at hcx hr1
      have hcall := l01Own_any A1 m c1 M[k] wr hm hr1
      have HV : Hid (M.take (k + 1) = M.take k ++ [M[k]]) := Lib.hid (List.take_succ_eq_append_getElem hxk)
      have HM := Lib.hid hM
      clear hM hr1 hl1 ha
      go_wp2_with fail
      refine hcall.mono ?_
      rintro e w5 ⟨A5, c5, rfl, hM5⟩
      clear hcall
      go_wp2_with (at_builtin; refine wpList_appRow w wr _ rfl _ _ rfl A' k c' _ A5 m c5 _ HM.out hM5 (by omega) rfl ?_ ?_; (go_simp); intro A6 c6 w6 hM6)
      go_roundw
      case rel => exact ⟨k + 1, A6, c6, by omega, by go_num, rfl, by rw [HV.out]; exact hM6⟩
      case measure => simp [intOf]; omega
    · obtain rfl : k = n := by omega
      go_wp2
      go_ret
      rw [List.take_of_length_le (by rw [HML.out]; exact Nat.le_refl _)] at hM
      exact ⟨_, _, rfl, hM⟩
set_option maxHeartbeats 6400000 in
set_option maxRecDepth 8000 in
theorem basis_any (p : Int) (A : Option Addr) (n c : Nat) (M : List (List Int)) (m : Nat) (w : World) (HP : isP p = true) (hn : n ≤ 65536) (hm : m ≤ 65536) (ha : RdII w A n M) (hT : Tab p m M) :
    Calls Tryz.prog 324 #[.int .i64 p, .slice A n c] w fun e w' => ∃ A' c', e = .returned (.slice A' (basisL p M).length c') ∧ MkII w w' A' (basisL p M).length c' (basisL p M) := by
  have hML := ha.len
  obtain ⟨hp3, hp2⟩ := isP_ge HP
  have hp : 2 ≤ p := by omega
  have hclone := cloneRows_any p A n c M m w hn hm ha hT
  have HT := Lib.hid hT
  have HP' := Lib.hid HP
  by_cases h0 : 0 < n
  · have HBL : Hid (basisL p M = (basisTo p M m).1.take (basisTo p M m).2) := Lib.hid (by unfold basisL; rw [row0_len hT (by omega)])
    have HINV : Hid (∀ k, Tab p m (basisTo p M k).1 ∧ (basisTo p M k).1.length = n ∧ (basisTo p M k).2 ≤ n) := Lib.hid (fun k => by
      have := basisTo_inv (p := p) (by omega) M hT k
      rw [hML] at this
      exact this)
    clear hT HP hML ha
    go_enter Tryz.func324, Tryz.ntmps324
    go_wp2_with fail
    refine hclone.mono ?_
    rintro e w1 ⟨A1, c1, rfl, hM1⟩
    clear hclone
    obtain ⟨g, rfl, -⟩ := hM1.at_ h0
    go_wp2
    go_loopw [6, 7] (fun d q wr => ∃ dn kn : Nat, d = .int .i64 dn ∧ q = .int .i64 kn ∧ kn ≤ m ∧ dn = (basisTo p M kn).2 ∧ MkII w wr (some ⟨g, 0, none⟩) n c1 (basisTo p M kn).1) (fun _ q _ => m - (intOf q).toNat)
    case atStart => exact ⟨0, 0, rfl, rfl, by omega, rfl, hM1⟩
    case round =>
      obtain ⟨dn, kn, rfl, rfl, hkm, hdn, hM⟩ := hrel
      clear hM1
      obtain ⟨hT1, hl1, hd1⟩ := HINV.out kn
      rw [← hdn] at hd1
      have HSUC : Hid (basisTo p M (kn + 1) = stepB p kn ((basisTo p M kn).1, dn)) := Lib.hid (by rw [hdn]; rfl)
      have HFULL : Hid (dn = n → basisL p M = (basisTo p M kn).1.take dn) := Lib.hid (fun h => by
        rw [HBL.out, basisTo_full p M kn m hkm (by rw [← hdn, hl1]; exact h), ← hdn])
      have HEND : Hid (kn = m → basisL p M = (basisTo p M kn).1.take dn) := Lib.hid (fun h => by rw [HBL.out, ← h, ← hdn])
      obtain ⟨L, hL⟩ : ∃ L, L = (basisTo p M kn).1 := ⟨_, rfl⟩
      rw [← hL] at hM hT1 hl1 HSUC HFULL HEND
      clear hL hdn
      have HT1 := Lib.hid hT1
      have HL1 := Lib.hid hl1
      have HM := Lib.hid hM
      have hcap : n ≤ c1 := by obtain ⟨rows, hm', _⟩ := hM; exact hm'.2.cap
      obtain ⟨g0, e0, hx0, A0, c0, hc0, -⟩ := hM.at_ h0
      injection e0 with e0; injection e0 with e0 _ _; subst e0
      have hl0 : L[0].length = m := (HT1.out L[0] (List.getElem_mem hx0)).1
      rw [hl0] at hc0
      clear hl0 hT1 hl1 hM
      by_cases hgo : kn < m ∧ dn < n
      · obtain ⟨hlk, hld⟩ := hgo
        go_wp2
        go_loop [8] (fun i => ∃ j : Nat, dn ≤ j ∧ j ≤ n ∧ i = .int .i64 j ∧ Hid (piv L kn (n - j) j = pivOf L kn dn)) (fun i => n - (intOf i).toNat)
        case atStart => exact ⟨dn, by omega, by omega, rfl, Lib.hid (by unfold pivOf; rw [HL1.out])⟩
        case round =>
          obtain ⟨j, hj1, hj2, rfl, hj3⟩ := hrel
          by_cases hlj : j < n
          · have hld : dn < n := by omega
            obtain ⟨g0, e0, hxj, Aj, cj, hcj, hrj⟩ := HM.out.at_ hlj
            injection e0 with e0; injection e0 with e0 _ _; subst e0
            have HRJ := Lib.hid (HT1.out L[j] (List.getElem_mem hxj))
            have hlj2 : L[j].length = m := HRJ.out.1
            rw [hlj2] at hcj hrj
            obtain ⟨gj, oj, rfl, hxe, hce⟩ := hrj.rd.int hlk
            have HE : Hid (ent L j kn = L[j][kn]) := Lib.hid (ent_at' hxj hxe)
            have HPV : Hid (piv L kn (n - j) j = if ent L j kn = 0 then piv L kn (n - (j + 1)) (j + 1) else j) := Lib.hid (by
              rw [show n - j = (n - (j + 1)) + 1 by omega]; rfl)
            have HROW : Hid ((swapL L dn j)[dn]? = some L[j]) := Lib.hid (by
              rw [swapL_get? L (by rw [HL1.out]; exact hld) hxj]
              by_cases hdj : dn = j
              · subst hdj; rw [if_pos rfl]; exact List.getElem?_eq_getElem hxj
              · rw [if_neg hdj, if_pos rfl]; exact List.getElem?_eq_getElem hxj)
            have HGD : Hid (L.getD j [] = L[j]) := Lib.hid (getD_of_lt [] hxj)
            obtain ⟨R, hR⟩ : ∃ R, R = L[j] := ⟨_, rfl⟩
            have HXE : Hid (∀ h : kn < R.length, R[kn] = L[j][kn]) := Lib.hid (fun h => by simp only [hR])
            rw [← hR] at hrj HRJ HROW HGD
            clear hlj2
            obtain ⟨xe, hxe'⟩ : ∃ x, x = L[j][kn] := ⟨_, rfl⟩
            rw [← hxe'] at hce HE HXE
            have HX : Hid (0 ≤ xe ∧ xe < p) := Lib.hid (hxe' ▸ ((HT1.out L[j] (List.getElem_mem hxj)).2 _ (List.getElem_mem hxe)))
            clear hxe' hxe hR hxj
            cases hz : (xe == 0)
            · have hne : xe ≠ 0 := by simpa using hz
              have HVP : Hid (pivOf L kn dn = j) := Lib.hid (by rw [← hj3.out, HPV.out, if_neg (by rw [HE.out]; exact hne)])
              obtain ⟨g0, e0, hxd, Ad, cd, hcd, hrd⟩ := HM.out.at_ hld
              injection e0 with e0; injection e0 with e0 _ _; subst e0
              have hld2 : L[dn].length = m := (HT1.out L[dn] (List.getElem_mem hxd)).1
              rw [hld2] at hcd hrd
              have fd := HM.out.frozen_ dn
              have fj := HM.out.frozen_ j
              have HSC : Hid (scaledAt p L kn dn = (swapL L dn j).set dn (scaleL p R (invF p xe))) := Lib.hid (by unfold scaledAt; rw [HVP.out, HGD.out, HE.out])
              have HTS : Hid (Tab p m (scaledAt p L kn dn) ∧ (scaledAt p L kn dn).length = n) := Lib.hid ⟨scaledAt_tab (by omega) HT1.out (by rw [HL1.out]; exact hld) (by rw [HVP.out, HL1.out]; exact hlj), by rw [scaledAt_len, HL1.out]⟩
              have HNEXT : Hid (basisTo p M (kn + 1) = (clearTo p (scaledAt p L kn dn) dn kn n, dn + 1)) := Lib.hid (by
                rw [HSUC.out]; unfold stepB; rw [if_neg (by simp only; rw [HVP.out, HL1.out]; omega)]; simp only [HL1.out])
              have HSCD : Hid ((scaledAt p L kn dn).getD dn [] = scaleL p R (invF p xe)) := Lib.hid (by
                rw [HSC.out, getD_set, if_pos ⟨rfl, by rw [swapL_len, HL1.out]; exact hld⟩])
              have HSW := Lib.hid (HM.out.swap hld hlj hcd hcj)
              obtain ⟨uj, hcs⟩ := HM.out.cellSet dn (A1 := some ⟨gj, oj, none⟩) (m := m) (c1 := cj) hlj
              clear hrj hrd hld2 hxd
              go_wp2
              go_region
              obtain ⟨w2, hw2⟩ : ∃ W, W = ((wr.setCell ⟨g, dn, none⟩ (.slice (some ⟨gj, oj, none⟩) m cj)).setCell ⟨g, j, none⟩ (.slice Ad m cd)).drew := ⟨_, rfl⟩
              have hM2 : MkII w w2 (some ⟨g, 0, none⟩) n c1 (swapL L dn j) := by rw [hw2]; exact HSW.out.below ((Below.refl _ _).drew)
              rw [← hw2]
              clear hw2 HSW hcs fd fj hcd hcj hce hc0
              obtain ⟨g0, e0, hxs, As, cs, hcs2, hrs⟩ := hM2.at_ hld
              injection e0 with e0; injection e0 with e0 _ _; subst e0
              have hrow : (swapL L dn j)[dn] = R := by have := HROW.out; rw [List.getElem?_eq_getElem hxs] at this; exact Option.some.inj this
              rw [hrow] at hcs2 hrs
              have hRl := HRJ.out.1
              rw [hRl] at hcs2 hrs
              obtain ⟨gs, os, rfl, hxe2, hce2⟩ := hrs.rd.int hlk
              rw [HXE.out hxe2] at hce2
              have HM2 := Lib.hid hM2
              have HRS := Lib.hid hrs
              clear hM2 hrs hrow hxe2 hxs hRl
              have hiv := invF_small hp xe
              have hx1 := HX.out
              have fd := HM2.out.frozen_ dn
              go_wp2
              refine wp_obs 18 [[], [], [], [], [], [3, 4], [3, 4, 5], [], [], [], [8, 9], [8, 9, 10], [], [8, 9, 10, 11, 12], [8, 9, 10, 11, 12, 13], [7, 8, 9, 10, 11, 12, 13, 14], [2, 3, 4, 5, 6, 7, 8, 9, 10, 11, 12, 13, 14, 15], [0, 1], [0, 1, 2, 3, 4, 5, 6, 7, 8, 9, 10, 11, 12, 13, 14, 15, 16, 17]] [VIs (.slice (some ⟨g, 0, none⟩) n c1), VIs (.int .i64 (dn)), VIs (.int .i64 (p)), VIs (.slice (some ⟨g, 0, none⟩) n c1), VIs (.int .i64 (dn)), VIs (.pointer (some ⟨g, dn, none⟩)), VIs (.slice (some ⟨gs, os, none⟩) m cs), VIs (.int .i64 (p)), VIs (.slice (some ⟨g, 0, none⟩) n c1), VIs (.int .i64 (dn)), VIs (.pointer (some ⟨g, dn, none⟩)), VIs (.slice (some ⟨gs, os, none⟩) m cs), VIs (.int .i64 (kn)), VIs (.pointer (some ⟨gs, os + kn, none⟩)), VIs (.int .i64 (xe)), VIs (.int .i64 (invF p xe)), VSl w2 m (scaleL p R (invF p xe)), VIs (.pointer (some ⟨g, dn, none⟩))] (fun w' => w'.cell? ⟨g, dn, none⟩ = some (.slice (some ⟨gs, os, none⟩) m cs) ∧ w'.cell? ⟨gs, os + kn, none⟩ = some (.int .i64 xe) ∧ Below w2.heap.size w2 w') (by kernel_rfl) (by kernel_rfl) (fun _ _ h hb => keepB2 h hb (Nat.le_refl _)) (⟨hcs2, hce2, (Below.refl _ _).drew⟩) (fun x => ?_)
              refine obs_step (Eq.trans (by simp only [List.getElem?_toArray, List.getElem?_cons_zero]; exact rfl) rfl) rfl (fun w' hS hV K hK => ?_) ?_
              · have q0 := hS.1; have q1 := hS.2.1; have q2 := hS.2.2
                go_simp
                exact hK.out _ _ _ rfl rfl rfl (Below.refl _ _)
              simp only [List.setIfInBounds_toArray, List.set_cons_zero, List.set_cons_succ]
              refine obs_step (Eq.trans (by simp only [List.getElem?_toArray, List.getElem?_cons_succ, List.getElem?_cons_zero]; exact rfl) rfl) rfl (fun w' hS hV K hK => ?_) ?_
              · have q0 := hS.1; have q1 := hS.2.1; have q2 := hS.2.2
                go_simp
                exact hK.out _ _ _ rfl rfl rfl (Below.refl _ _)
              simp only [List.setIfInBounds_toArray, List.set_cons_zero, List.set_cons_succ]
              refine obs_step (Eq.trans (by simp only [List.getElem?_toArray, List.getElem?_cons_succ, List.getElem?_cons_zero]; exact rfl) rfl) rfl (fun w' hS hV K hK => ?_) ?_
              · have q0 := hS.1; have q1 := hS.2.1; have q2 := hS.2.2
                go_simp
                exact hK.out _ _ _ rfl rfl rfl (Below.refl _ _)
              simp only [List.setIfInBounds_toArray, List.set_cons_zero, List.set_cons_succ]
              refine obs_step (Eq.trans (by simp only [List.getElem?_toArray, List.getElem?_cons_succ, List.getElem?_cons_zero]; exact rfl) rfl) rfl (fun w' hS hV K hK => ?_) ?_
              · have q0 := hS.1; have q1 := hS.2.1; have q2 := hS.2.2
                go_simp
                exact hK.out _ _ _ rfl rfl rfl (Below.refl _ _)
              simp only [List.setIfInBounds_toArray, List.set_cons_zero, List.set_cons_succ]
              refine obs_step (Eq.trans (by simp only [List.getElem?_toArray, List.getElem?_cons_succ, List.getElem?_cons_zero]; exact rfl) rfl) rfl (fun w' hS hV K hK => ?_) ?_
              · have q0 := hS.1; have q1 := hS.2.1; have q2 := hS.2.2
                go_simp
                exact hK.out _ _ _ rfl rfl rfl (Below.refl _ _)
              simp only [List.setIfInBounds_toArray, List.set_cons_zero, List.set_cons_succ]
              refine obs_step (Eq.trans (by simp only [List.getElem?_toArray, List.getElem?_cons_succ, List.getElem?_cons_zero]; exact rfl) rfl) rfl (fun w' hS hV K hK => ?_) ?_
              · have e3 : x 3 = (.slice (some ⟨g, 0, none⟩) n c1) := hV 3 (by decide)
                have e4 : x 4 = (.int .i64 (dn)) := hV 4 (by decide)
                have q0 := hS.1; have q1 := hS.2.1; have q2 := hS.2.2
                go_simp
                exact hK.out _ _ _ rfl rfl rfl (Below.refl _ _)
              simp only [List.setIfInBounds_toArray, List.set_cons_zero, List.set_cons_succ]
              refine obs_step (Eq.trans (by simp only [List.getElem?_toArray, List.getElem?_cons_succ, List.getElem?_cons_zero]; exact rfl) rfl) rfl (fun w' hS hV K hK => ?_) ?_
              · have e3 : x 3 = (.slice (some ⟨g, 0, none⟩) n c1) := hV 3 (by decide)
                have e4 : x 4 = (.int .i64 (dn)) := hV 4 (by decide)
                have e5 : x 5 = (.pointer (some ⟨g, dn, none⟩)) := hV 5 (by decide)
                have q0 := hS.1; have q1 := hS.2.1; have q2 := hS.2.2
                go_simp
                exact hK.out _ _ _ rfl rfl rfl (Below.refl _ _)
              simp only [List.setIfInBounds_toArray, List.set_cons_zero, List.set_cons_succ]
              refine obs_step (Eq.trans (by simp only [List.getElem?_toArray, List.getElem?_cons_succ, List.getElem?_cons_zero]; exact rfl) rfl) rfl (fun w' hS hV K hK => ?_) ?_
              · have q0 := hS.1; have q1 := hS.2.1; have q2 := hS.2.2
                go_simp
                exact hK.out _ _ _ rfl rfl rfl (Below.refl _ _)
              simp only [List.setIfInBounds_toArray, List.set_cons_zero, List.set_cons_succ]
              refine obs_step (Eq.trans (by simp only [List.getElem?_toArray, List.getElem?_cons_succ, List.getElem?_cons_zero]; exact rfl) rfl) rfl (fun w' hS hV K hK => ?_) ?_
              · have q0 := hS.1; have q1 := hS.2.1; have q2 := hS.2.2
                go_simp
                exact hK.out _ _ _ rfl rfl rfl (Below.refl _ _)
              simp only [List.setIfInBounds_toArray, List.set_cons_zero, List.set_cons_succ]
              refine obs_step (Eq.trans (by simp only [List.getElem?_toArray, List.getElem?_cons_succ, List.getElem?_cons_zero]; exact rfl) rfl) rfl (fun w' hS hV K hK => ?_) ?_
              · have q0 := hS.1; have q1 := hS.2.1; have q2 := hS.2.2
                go_simp
                exact hK.out _ _ _ rfl rfl rfl (Below.refl _ _)
              simp only [List.setIfInBounds_toArray, List.set_cons_zero, List.set_cons_succ]
              refine obs_step (Eq.trans (by simp only [List.getElem?_toArray, List.getElem?_cons_succ, List.getElem?_cons_zero]; exact rfl) rfl) rfl (fun w' hS hV K hK => ?_) ?_
              · have e8 : x 8 = (.slice (some ⟨g, 0, none⟩) n c1) := hV 8 (by decide)
                have e9 : x 9 = (.int .i64 (dn)) := hV 9 (by decide)
                have q0 := hS.1; have q1 := hS.2.1; have q2 := hS.2.2
                go_simp
                exact hK.out _ _ _ rfl rfl rfl (Below.refl _ _)
              simp only [List.setIfInBounds_toArray, List.set_cons_zero, List.set_cons_succ]
              refine obs_step (Eq.trans (by simp only [List.getElem?_toArray, List.getElem?_cons_succ, List.getElem?_cons_zero]; exact rfl) rfl) rfl (fun w' hS hV K hK => ?_) ?_
              · have e8 : x 8 = (.slice (some ⟨g, 0, none⟩) n c1) := hV 8 (by decide)
                have e9 : x 9 = (.int .i64 (dn)) := hV 9 (by decide)
                have e10 : x 10 = (.pointer (some ⟨g, dn, none⟩)) := hV 10 (by decide)
                have q0 := hS.1; have q1 := hS.2.1; have q2 := hS.2.2
                go_simp
                exact hK.out _ _ _ rfl rfl rfl (Below.refl _ _)
              simp only [List.setIfInBounds_toArray, List.set_cons_zero, List.set_cons_succ]
              refine obs_step (Eq.trans (by simp only [List.getElem?_toArray, List.getElem?_cons_succ, List.getElem?_cons_zero]; exact rfl) rfl) rfl (fun w' hS hV K hK => ?_) ?_
              · have q0 := hS.1; have q1 := hS.2.1; have q2 := hS.2.2
                go_simp
                exact hK.out _ _ _ rfl rfl rfl (Below.refl _ _)
              simp only [List.setIfInBounds_toArray, List.set_cons_zero, List.set_cons_succ]
              refine obs_step (Eq.trans (by simp only [List.getElem?_toArray, List.getElem?_cons_succ, List.getElem?_cons_zero]; exact rfl) rfl) rfl (fun w' hS hV K hK => ?_) ?_
              · have e8 : x 8 = (.slice (some ⟨g, 0, none⟩) n c1) := hV 8 (by decide)
                have e9 : x 9 = (.int .i64 (dn)) := hV 9 (by decide)
                have e10 : x 10 = (.pointer (some ⟨g, dn, none⟩)) := hV 10 (by decide)
                have e11 : x 11 = (.slice (some ⟨gs, os, none⟩) m cs) := hV 11 (by decide)
                have e12 : x 12 = (.int .i64 (kn)) := hV 12 (by decide)
                have q0 := hS.1; have q1 := hS.2.1; have q2 := hS.2.2
                go_simp
                exact hK.out _ _ _ rfl rfl rfl (Below.refl _ _)
              simp only [List.setIfInBounds_toArray, List.set_cons_zero, List.set_cons_succ]
              refine obs_step (Eq.trans (by simp only [List.getElem?_toArray, List.getElem?_cons_succ, List.getElem?_cons_zero]; exact rfl) rfl) rfl (fun w' hS hV K hK => ?_) ?_
              · have e8 : x 8 = (.slice (some ⟨g, 0, none⟩) n c1) := hV 8 (by decide)
                have e9 : x 9 = (.int .i64 (dn)) := hV 9 (by decide)
                have e10 : x 10 = (.pointer (some ⟨g, dn, none⟩)) := hV 10 (by decide)
                have e11 : x 11 = (.slice (some ⟨gs, os, none⟩) m cs) := hV 11 (by decide)
                have e12 : x 12 = (.int .i64 (kn)) := hV 12 (by decide)
                have e13 : x 13 = (.pointer (some ⟨gs, os + kn, none⟩)) := hV 13 (by decide)
                have q0 := hS.1; have q1 := hS.2.1; have q2 := hS.2.2
                go_simp
                exact hK.out _ _ _ rfl rfl rfl (Below.refl _ _)
              simp only [List.setIfInBounds_toArray, List.set_cons_zero, List.set_cons_succ]
              refine obs_step (Eq.trans (by simp only [List.getElem?_toArray, List.getElem?_cons_succ, List.getElem?_cons_zero]; exact rfl) rfl) rfl (fun w' hS hV K hK => ?_) ?_
              · have e7 : x 7 = (.int .i64 (p)) := hV 7 (by decide)
                have e8 : x 8 = (.slice (some ⟨g, 0, none⟩) n c1) := hV 8 (by decide)
                have e9 : x 9 = (.int .i64 (dn)) := hV 9 (by decide)
                have e10 : x 10 = (.pointer (some ⟨g, dn, none⟩)) := hV 10 (by decide)
                have e11 : x 11 = (.slice (some ⟨gs, os, none⟩) m cs) := hV 11 (by decide)
                have e12 : x 12 = (.int .i64 (kn)) := hV 12 (by decide)
                have e13 : x 13 = (.pointer (some ⟨gs, os + kn, none⟩)) := hV 13 (by decide)
                have e14 : x 14 = (.int .i64 (xe)) := hV 14 (by decide)
                have q0 := hS.1; have q1 := hS.2.1; have q2 := hS.2.2
                go_simp
                refine (inv_any p xe _ hp hp2 hx1.1 hx1.2).mono ?_
                rintro e v1 ⟨rfl, rfl⟩
                exact hK.out _ _ _ rfl rfl rfl (Below.refl _ _)
              simp only [List.setIfInBounds_toArray, List.set_cons_zero, List.set_cons_succ]
              refine obs_step (Eq.trans (by simp only [List.getElem?_toArray, List.getElem?_cons_succ, List.getElem?_cons_zero]; exact rfl) rfl) rfl (fun w' hS hV K hK => ?_) ?_
              · have e2 : x 2 = (.int .i64 (p)) := hV 2 (by decide)
                have e3 : x 3 = (.slice (some ⟨g, 0, none⟩) n c1) := hV 3 (by decide)
                have e4 : x 4 = (.int .i64 (dn)) := hV 4 (by decide)
                have e5 : x 5 = (.pointer (some ⟨g, dn, none⟩)) := hV 5 (by decide)
                have e6 : x 6 = (.slice (some ⟨gs, os, none⟩) m cs) := hV 6 (by decide)
                have e7 : x 7 = (.int .i64 (p)) := hV 7 (by decide)
                have e8 : x 8 = (.slice (some ⟨g, 0, none⟩) n c1) := hV 8 (by decide)
                have e9 : x 9 = (.int .i64 (dn)) := hV 9 (by decide)
                have e10 : x 10 = (.pointer (some ⟨g, dn, none⟩)) := hV 10 (by decide)
                have e11 : x 11 = (.slice (some ⟨gs, os, none⟩) m cs) := hV 11 (by decide)
                have e12 : x 12 = (.int .i64 (kn)) := hV 12 (by decide)
                have e13 : x 13 = (.pointer (some ⟨gs, os + kn, none⟩)) := hV 13 (by decide)
                have e14 : x 14 = (.int .i64 (xe)) := hV 14 (by decide)
                have e15 : x 15 = (.int .i64 (invF p xe)) := hV 15 (by decide)
                have q0 := hS.1; have q1 := hS.2.1; have q2 := hS.2.2
                go_simp
                refine (scaled_any p _ m _ (invF p xe) R _ hp hp2 hm (HRS.out.rd.below hS.2.2) HRJ.out.2 (by omega) (by omega)).mono ?_
                rintro e v1 ⟨A2, c2, rfl, hM⟩
                exact hK.out _ _ _ rfl rfl ⟨_, _, rfl, hM.after hS.2.2⟩ hM.b
              simp only [List.setIfInBounds_toArray, List.set_cons_zero, List.set_cons_succ]
              refine obs_step (Eq.trans (by simp only [List.getElem?_toArray, List.getElem?_cons_succ, List.getElem?_cons_zero]; exact rfl) rfl) rfl (fun w' hS hV K hK => ?_) ?_
              · have e0 : x 0 = (.slice (some ⟨g, 0, none⟩) n c1) := hV 0 (by decide)
                have e1 : x 1 = (.int .i64 (dn)) := hV 1 (by decide)
                have q0 := hS.1; have q1 := hS.2.1; have q2 := hS.2.2
                go_simp
                exact hK.out _ _ _ rfl rfl rfl (Below.refl _ _)
              simp only [List.setIfInBounds_toArray, List.set_cons_zero, List.set_cons_succ]
              refine fun w' hS hV => ?_
              have e0 : x 0 = (.slice (some ⟨g, 0, none⟩) n c1) := hV 0 (by decide)
              have e1 : x 1 = (.int .i64 (dn)) := hV 1 (by decide)
              have e2 : x 2 = (.int .i64 (p)) := hV 2 (by decide)
              have e3 : x 3 = (.slice (some ⟨g, 0, none⟩) n c1) := hV 3 (by decide)
              have e4 : x 4 = (.int .i64 (dn)) := hV 4 (by decide)
              have e5 : x 5 = (.pointer (some ⟨g, dn, none⟩)) := hV 5 (by decide)
              have e6 : x 6 = (.slice (some ⟨gs, os, none⟩) m cs) := hV 6 (by decide)
              have e7 : x 7 = (.int .i64 (p)) := hV 7 (by decide)
              have e8 : x 8 = (.slice (some ⟨g, 0, none⟩) n c1) := hV 8 (by decide)
              have e9 : x 9 = (.int .i64 (dn)) := hV 9 (by decide)
              have e10 : x 10 = (.pointer (some ⟨g, dn, none⟩)) := hV 10 (by decide)
              have e11 : x 11 = (.slice (some ⟨gs, os, none⟩) m cs) := hV 11 (by decide)
              have e12 : x 12 = (.int .i64 (kn)) := hV 12 (by decide)
              have e13 : x 13 = (.pointer (some ⟨gs, os + kn, none⟩)) := hV 13 (by decide)
              have e14 : x 14 = (.int .i64 (xe)) := hV 14 (by decide)
              have e15 : x 15 = (.int .i64 (invF p xe)) := hV 15 (by decide)
              obtain ⟨A16, c16, e16, h16⟩ := hV 16 (by decide)
              have e17 : x 17 = (.pointer (some ⟨g, dn, none⟩)) := hV 17 (by decide)
              simp only [e0, e1, e2, e3, e4, e5, e6, e7, e8, e9, e10, e11, e12, e13, e14, e15, e16, e17]
              clear e0 e1 e2 e3 e4 e5 e6 e7 e8 e9 e10 e11 e12 e13 e14 e15 e16 e17
              obtain ⟨q0, q1, q2⟩ := hS
              have ff := (HM2.out.below q2).frozen_ dn
              refine any_one (j := 18) (by kernel_rfl) (Eq.trans (by simp only [List.getElem?_toArray, List.getElem?_cons_succ, List.getElem?_cons_zero]; exact rfl) rfl) (fun K hK => ?_)
              go_simp
              refine hK.out _ _ (wpAny_done (by kernel_rfl) ?_ _)
              have hM3 := HM2.out.setRow h16 dn
              rw [← HSC.out] at hM3
              clear q0 q1 q2 ff hV hcs2 hce2 fd h16
              obtain ⟨w3, hw3⟩ : ∃ W, W = w'.setCell ⟨g, dn, none⟩ (.slice A16 m c16) := ⟨_, rfl⟩
              rw [← hw3] at hM3 ⊢
              clear hw3 HM2 HRS
              have hM0 : MkII w w3 (some ⟨g, 0, none⟩) n c1 (clearTo p (scaledAt p L kn dn) dn kn 0) := by rw [clearTo_zero]; exact hM3
              obtain ⟨N, hN⟩ : ∃ N, N = scaledAt p L kn dn := ⟨_, rfl⟩
              rw [← hN] at hM0 HTS HNEXT HSCD
              clear hM3 hN HSC
              go_wp2
              go_loopw [86] (fun i w4 => ∃ r : Nat, r ≤ n ∧ i = .int .i64 r ∧ MkII w w4 (some ⟨g, 0, none⟩) n c1 (clearTo p N dn kn r)) (fun i _ => n - (intOf i).toNat)
              case atStart => exact ⟨0, by omega, rfl, hM0⟩
              case round =>
                obtain ⟨r, hr, rfl, hM4⟩ := hrel
                clear hM0
                by_cases hlr : r < n
                · by_cases hrd : r = dn
                  · subst hrd
                    have HM4 := Lib.hid hM4
                    clear hM4
                    go_wp2
                    go_roundw
                    case rel => exact ⟨r + 1, by omega, by go_num, by rw [clearTo_skip]; exact HM4.out⟩
                    case measure => simp [intOf]; omega
                  · have hT4 : Tab p m (clearTo p N dn kn r) := clearTo_tab (by omega) HTS.out.1 dn kn r
                    have hr4 : (clearTo p N dn kn r).getD r [] = N.getD r [] := by rw [clearTo_getD (by rw [HTS.out.2]; exact hlr), if_neg (by omega)]
                    have hd4 : (clearTo p N dn kn r).getD dn [] = N.getD dn [] := by rw [clearTo_getD (by rw [HTS.out.2]; exact hld), if_neg (fun h => h.2 rfl)]
                    obtain ⟨g0, e0, hxr, Ar, cr, hcr, hrr⟩ := hM4.at_ hlr
                    injection e0 with e0; injection e0 with e0 _ _; subst e0
                    obtain ⟨g0, e0, hxd, Ad2, cd2, hcd2, hrd2⟩ := hM4.at_ hld
                    injection e0 with e0; injection e0 with e0 _ _; subst e0
                    have HR1 := Lib.hid (hT4 _ (List.getElem_mem hxr))
                    have HD1 := Lib.hid (hT4 _ (List.getElem_mem hxd))
                    have hl1 := HR1.out.1
                    have hl2 := HD1.out.1
                    rw [getD_of_lt [] hxr] at hr4
                    rw [getD_of_lt [] hxd] at hd4
                    rw [hl1] at hcr hrr
                    rw [hl2] at hcd2 hrd2
                    rw [hr4] at hrr HR1
                    rw [hd4] at hrd2 HD1
                    obtain ⟨gr, or', rfl, hxy, hcy⟩ := hrr.rd.int hlk
                    have hey : ent N r kn = (N.getD r [])[kn] := by unfold ent; rw [getD_of_lt 0 hxy]
                    obtain ⟨y, hy⟩ : ∃ y, y = (N.getD r [])[kn] := ⟨_, rfl⟩
                    have hyb : 0 ≤ y ∧ y < p := hy ▸ HR1.out.2 _ (List.getElem_mem hxy)
                    rw [← hy] at hcy hey
                    have HEY := Lib.hid hey
                    have HM4 := Lib.hid hM4
                    have HRR := Lib.hid hrr
                    have HRD := Lib.hid hrd2
                    clear hy hT4 hr4 hd4 hl1 hl2 hxr hxd hxy hey hM4 hrr hrd2
                    cases hyz : (y != 0)
                    · have hy0 : y = 0 := by simpa using hyz
                      go_wp2
                      go_roundw
                      case rel => exact ⟨r + 1, by omega, by go_num, by rw [clearTo_same (by rw [HTS.out.2]; exact hlr) (by rw [HEY.out]; exact hy0) HR1.out.2]; exact HM4.out⟩
                      case measure => simp [intOf]; omega
                    · have hwy := i64_small (x := -y) (by omega) (by omega)
                      go_wp2
                      refine wp_obs 21 [[], [], [], [], [], [3, 4], [3, 4, 5], [], [], [7, 8], [7, 8, 9], [], [], [11, 12], [11, 12, 13], [], [11, 12, 13, 14, 15], [11, 12, 13, 14, 15, 16], [11, 12, 13, 14, 15, 16, 17], [2, 3, 4, 5, 6, 7, 8, 9, 10, 11, 12, 13, 14, 15, 16, 17, 18], [0, 1], [0, 1, 2, 3, 4, 5, 6, 7, 8, 9, 10, 11, 12, 13, 14, 15, 16, 17, 18, 19, 20]] [VIs (.slice (some ⟨g, 0, none⟩) n c1), VIs (.int .i64 (r)), VIs (.int .i64 (p)), VIs (.slice (some ⟨g, 0, none⟩) n c1), VIs (.int .i64 (r)), VIs (.pointer (some ⟨g, r, none⟩)), VIs (.slice (some ⟨gr, or', none⟩) m cr), VIs (.slice (some ⟨g, 0, none⟩) n c1), VIs (.int .i64 (dn)), VIs (.pointer (some ⟨g, dn, none⟩)), VIs (.slice Ad2 m cd2), VIs (.slice (some ⟨g, 0, none⟩) n c1), VIs (.int .i64 (r)), VIs (.pointer (some ⟨g, r, none⟩)), VIs (.slice (some ⟨gr, or', none⟩) m cr), VIs (.int .i64 (kn)), VIs (.pointer (some ⟨gr, or' + kn, none⟩)), VIs (.int .i64 (y)), VIs (.int .i64 (-y)), VSl wr m (plusL p (N.getD r []) (N.getD dn []) (-y)), VIs (.pointer (some ⟨g, r, none⟩))] (fun w' => w'.cell? ⟨g, r, none⟩ = some (.slice (some ⟨gr, or', none⟩) m cr) ∧ w'.cell? ⟨g, dn, none⟩ = some (.slice Ad2 m cd2) ∧ w'.cell? ⟨gr, or' + kn, none⟩ = some (.int .i64 y) ∧ Below wr.heap.size wr w') (by kernel_rfl) (by kernel_rfl) (fun _ _ h hb => keepR3 h hb (Nat.le_refl _)) (⟨hcr, hcd2, hcy, (Below.refl _ _).drew⟩) (fun x => ?_)
                      refine obs_step (Eq.trans (by simp only [List.getElem?_toArray, List.getElem?_cons_zero]; exact rfl) rfl) rfl (fun w' hS hV K hK => ?_) ?_
                      · have q0 := hS.1; have q1 := hS.2.1; have q2 := hS.2.2.1; have q3 := hS.2.2.2
                        go_simp
                        exact hK.out _ _ _ rfl rfl rfl (Below.refl _ _)
                      simp only [List.setIfInBounds_toArray, List.set_cons_zero, List.set_cons_succ]
                      refine obs_step (Eq.trans (by simp only [List.getElem?_toArray, List.getElem?_cons_succ, List.getElem?_cons_zero]; exact rfl) rfl) rfl (fun w' hS hV K hK => ?_) ?_
                      · have q0 := hS.1; have q1 := hS.2.1; have q2 := hS.2.2.1; have q3 := hS.2.2.2
                        go_simp
                        exact hK.out _ _ _ rfl rfl rfl (Below.refl _ _)
                      simp only [List.setIfInBounds_toArray, List.set_cons_zero, List.set_cons_succ]
                      refine obs_step (Eq.trans (by simp only [List.getElem?_toArray, List.getElem?_cons_succ, List.getElem?_cons_zero]; exact rfl) rfl) rfl (fun w' hS hV K hK => ?_) ?_
                      · have q0 := hS.1; have q1 := hS.2.1; have q2 := hS.2.2.1; have q3 := hS.2.2.2
                        go_simp
                        exact hK.out _ _ _ rfl rfl rfl (Below.refl _ _)
                      simp only [List.setIfInBounds_toArray, List.set_cons_zero, List.set_cons_succ]
                      refine obs_step (Eq.trans (by simp only [List.getElem?_toArray, List.getElem?_cons_succ, List.getElem?_cons_zero]; exact rfl) rfl) rfl (fun w' hS hV K hK => ?_) ?_
                      · have q0 := hS.1; have q1 := hS.2.1; have q2 := hS.2.2.1; have q3 := hS.2.2.2
                        go_simp
                        exact hK.out _ _ _ rfl rfl rfl (Below.refl _ _)
                      simp only [List.setIfInBounds_toArray, List.set_cons_zero, List.set_cons_succ]
                      refine obs_step (Eq.trans (by simp only [List.getElem?_toArray, List.getElem?_cons_succ, List.getElem?_cons_zero]; exact rfl) rfl) rfl (fun w' hS hV K hK => ?_) ?_
                      · have q0 := hS.1; have q1 := hS.2.1; have q2 := hS.2.2.1; have q3 := hS.2.2.2
                        go_simp
                        exact hK.out _ _ _ rfl rfl rfl (Below.refl _ _)
                      simp only [List.setIfInBounds_toArray, List.set_cons_zero, List.set_cons_succ]
                      refine obs_step (Eq.trans (by simp only [List.getElem?_toArray, List.getElem?_cons_succ, List.getElem?_cons_zero]; exact rfl) rfl) rfl (fun w' hS hV K hK => ?_) ?_
                      · have e3 : x 3 = (.slice (some ⟨g, 0, none⟩) n c1) := hV 3 (by decide)
                        have e4 : x 4 = (.int .i64 (r)) := hV 4 (by decide)
                        have q0 := hS.1; have q1 := hS.2.1; have q2 := hS.2.2.1; have q3 := hS.2.2.2
                        go_simp
                        exact hK.out _ _ _ rfl rfl rfl (Below.refl _ _)
                      simp only [List.setIfInBounds_toArray, List.set_cons_zero, List.set_cons_succ]
                      refine obs_step (Eq.trans (by simp only [List.getElem?_toArray, List.getElem?_cons_succ, List.getElem?_cons_zero]; exact rfl) rfl) rfl (fun w' hS hV K hK => ?_) ?_
                      · have e3 : x 3 = (.slice (some ⟨g, 0, none⟩) n c1) := hV 3 (by decide)
                        have e4 : x 4 = (.int .i64 (r)) := hV 4 (by decide)
                        have e5 : x 5 = (.pointer (some ⟨g, r, none⟩)) := hV 5 (by decide)
                        have q0 := hS.1; have q1 := hS.2.1; have q2 := hS.2.2.1; have q3 := hS.2.2.2
                        go_simp
                        exact hK.out _ _ _ rfl rfl rfl (Below.refl _ _)
                      simp only [List.setIfInBounds_toArray, List.set_cons_zero, List.set_cons_succ]
                      refine obs_step (Eq.trans (by simp only [List.getElem?_toArray, List.getElem?_cons_succ, List.getElem?_cons_zero]; exact rfl) rfl) rfl (fun w' hS hV K hK => ?_) ?_
                      · have q0 := hS.1; have q1 := hS.2.1; have q2 := hS.2.2.1; have q3 := hS.2.2.2
                        go_simp
                        exact hK.out _ _ _ rfl rfl rfl (Below.refl _ _)
                      simp only [List.setIfInBounds_toArray, List.set_cons_zero, List.set_cons_succ]
                      refine obs_step (Eq.trans (by simp only [List.getElem?_toArray, List.getElem?_cons_succ, List.getElem?_cons_zero]; exact rfl) rfl) rfl (fun w' hS hV K hK => ?_) ?_
                      · have q0 := hS.1; have q1 := hS.2.1; have q2 := hS.2.2.1; have q3 := hS.2.2.2
                        go_simp
                        exact hK.out _ _ _ rfl rfl rfl (Below.refl _ _)
                      simp only [List.setIfInBounds_toArray, List.set_cons_zero, List.set_cons_succ]
                      refine obs_step (Eq.trans (by simp only [List.getElem?_toArray, List.getElem?_cons_succ, List.getElem?_cons_zero]; exact rfl) rfl) rfl (fun w' hS hV K hK => ?_) ?_
                      · have e7 : x 7 = (.slice (some ⟨g, 0, none⟩) n c1) := hV 7 (by decide)
                        have e8 : x 8 = (.int .i64 (dn)) := hV 8 (by decide)
                        have q0 := hS.1; have q1 := hS.2.1; have q2 := hS.2.2.1; have q3 := hS.2.2.2
                        go_simp
                        exact hK.out _ _ _ rfl rfl rfl (Below.refl _ _)
                      simp only [List.setIfInBounds_toArray, List.set_cons_zero, List.set_cons_succ]
                      refine obs_step (Eq.trans (by simp only [List.getElem?_toArray, List.getElem?_cons_succ, List.getElem?_cons_zero]; exact rfl) rfl) rfl (fun w' hS hV K hK => ?_) ?_
                      · have e7 : x 7 = (.slice (some ⟨g, 0, none⟩) n c1) := hV 7 (by decide)
                        have e8 : x 8 = (.int .i64 (dn)) := hV 8 (by decide)
                        have e9 : x 9 = (.pointer (some ⟨g, dn, none⟩)) := hV 9 (by decide)
                        have q0 := hS.1; have q1 := hS.2.1; have q2 := hS.2.2.1; have q3 := hS.2.2.2
                        go_simp
                        exact hK.out _ _ _ rfl rfl rfl (Below.refl _ _)
                      simp only [List.setIfInBounds_toArray, List.set_cons_zero, List.set_cons_succ]
                      refine obs_step (Eq.trans (by simp only [List.getElem?_toArray, List.getElem?_cons_succ, List.getElem?_cons_zero]; exact rfl) rfl) rfl (fun w' hS hV K hK => ?_) ?_
                      · have q0 := hS.1; have q1 := hS.2.1; have q2 := hS.2.2.1; have q3 := hS.2.2.2
                        go_simp
                        exact hK.out _ _ _ rfl rfl rfl (Below.refl _ _)
                      simp only [List.setIfInBounds_toArray, List.set_cons_zero, List.set_cons_succ]
                      refine obs_step (Eq.trans (by simp only [List.getElem?_toArray, List.getElem?_cons_succ, List.getElem?_cons_zero]; exact rfl) rfl) rfl (fun w' hS hV K hK => ?_) ?_
                      · have q0 := hS.1; have q1 := hS.2.1; have q2 := hS.2.2.1; have q3 := hS.2.2.2
                        go_simp
                        exact hK.out _ _ _ rfl rfl rfl (Below.refl _ _)
                      simp only [List.setIfInBounds_toArray, List.set_cons_zero, List.set_cons_succ]
                      refine obs_step (Eq.trans (by simp only [List.getElem?_toArray, List.getElem?_cons_succ, List.getElem?_cons_zero]; exact rfl) rfl) rfl (fun w' hS hV K hK => ?_) ?_
                      · have e11 : x 11 = (.slice (some ⟨g, 0, none⟩) n c1) := hV 11 (by decide)
                        have e12 : x 12 = (.int .i64 (r)) := hV 12 (by decide)
                        have q0 := hS.1; have q1 := hS.2.1; have q2 := hS.2.2.1; have q3 := hS.2.2.2
                        go_simp
                        exact hK.out _ _ _ rfl rfl rfl (Below.refl _ _)
                      simp only [List.setIfInBounds_toArray, List.set_cons_zero, List.set_cons_succ]
                      refine obs_step (Eq.trans (by simp only [List.getElem?_toArray, List.getElem?_cons_succ, List.getElem?_cons_zero]; exact rfl) rfl) rfl (fun w' hS hV K hK => ?_) ?_
                      · have e11 : x 11 = (.slice (some ⟨g, 0, none⟩) n c1) := hV 11 (by decide)
                        have e12 : x 12 = (.int .i64 (r)) := hV 12 (by decide)
                        have e13 : x 13 = (.pointer (some ⟨g, r, none⟩)) := hV 13 (by decide)
                        have q0 := hS.1; have q1 := hS.2.1; have q2 := hS.2.2.1; have q3 := hS.2.2.2
                        go_simp
                        exact hK.out _ _ _ rfl rfl rfl (Below.refl _ _)
                      simp only [List.setIfInBounds_toArray, List.set_cons_zero, List.set_cons_succ]
                      refine obs_step (Eq.trans (by simp only [List.getElem?_toArray, List.getElem?_cons_succ, List.getElem?_cons_zero]; exact rfl) rfl) rfl (fun w' hS hV K hK => ?_) ?_
                      · have q0 := hS.1; have q1 := hS.2.1; have q2 := hS.2.2.1; have q3 := hS.2.2.2
                        go_simp
                        exact hK.out _ _ _ rfl rfl rfl (Below.refl _ _)
                      simp only [List.setIfInBounds_toArray, List.set_cons_zero, List.set_cons_succ]
                      refine obs_step (Eq.trans (by simp only [List.getElem?_toArray, List.getElem?_cons_succ, List.getElem?_cons_zero]; exact rfl) rfl) rfl (fun w' hS hV K hK => ?_) ?_
                      · have e11 : x 11 = (.slice (some ⟨g, 0, none⟩) n c1) := hV 11 (by decide)
                        have e12 : x 12 = (.int .i64 (r)) := hV 12 (by decide)
                        have e13 : x 13 = (.pointer (some ⟨g, r, none⟩)) := hV 13 (by decide)
                        have e14 : x 14 = (.slice (some ⟨gr, or', none⟩) m cr) := hV 14 (by decide)
                        have e15 : x 15 = (.int .i64 (kn)) := hV 15 (by decide)
                        have q0 := hS.1; have q1 := hS.2.1; have q2 := hS.2.2.1; have q3 := hS.2.2.2
                        go_simp
                        exact hK.out _ _ _ rfl rfl rfl (Below.refl _ _)
                      simp only [List.setIfInBounds_toArray, List.set_cons_zero, List.set_cons_succ]
                      refine obs_step (Eq.trans (by simp only [List.getElem?_toArray, List.getElem?_cons_succ, List.getElem?_cons_zero]; exact rfl) rfl) rfl (fun w' hS hV K hK => ?_) ?_
                      · have e11 : x 11 = (.slice (some ⟨g, 0, none⟩) n c1) := hV 11 (by decide)
                        have e12 : x 12 = (.int .i64 (r)) := hV 12 (by decide)
                        have e13 : x 13 = (.pointer (some ⟨g, r, none⟩)) := hV 13 (by decide)
                        have e14 : x 14 = (.slice (some ⟨gr, or', none⟩) m cr) := hV 14 (by decide)
                        have e15 : x 15 = (.int .i64 (kn)) := hV 15 (by decide)
                        have e16 : x 16 = (.pointer (some ⟨gr, or' + kn, none⟩)) := hV 16 (by decide)
                        have q0 := hS.1; have q1 := hS.2.1; have q2 := hS.2.2.1; have q3 := hS.2.2.2
                        go_simp
                        exact hK.out _ _ _ rfl rfl rfl (Below.refl _ _)
                      simp only [List.setIfInBounds_toArray, List.set_cons_zero, List.set_cons_succ]
                      refine obs_step (Eq.trans (by simp only [List.getElem?_toArray, List.getElem?_cons_succ, List.getElem?_cons_zero]; exact rfl) rfl) rfl (fun w' hS hV K hK => ?_) ?_
                      · have e11 : x 11 = (.slice (some ⟨g, 0, none⟩) n c1) := hV 11 (by decide)
                        have e12 : x 12 = (.int .i64 (r)) := hV 12 (by decide)
                        have e13 : x 13 = (.pointer (some ⟨g, r, none⟩)) := hV 13 (by decide)
                        have e14 : x 14 = (.slice (some ⟨gr, or', none⟩) m cr) := hV 14 (by decide)
                        have e15 : x 15 = (.int .i64 (kn)) := hV 15 (by decide)
                        have e16 : x 16 = (.pointer (some ⟨gr, or' + kn, none⟩)) := hV 16 (by decide)
                        have e17 : x 17 = (.int .i64 (y)) := hV 17 (by decide)
                        have q0 := hS.1; have q1 := hS.2.1; have q2 := hS.2.2.1; have q3 := hS.2.2.2
                        go_simp
                        exact hK.out _ _ _ rfl rfl rfl (Below.refl _ _)
                      simp only [List.setIfInBounds_toArray, List.set_cons_zero, List.set_cons_succ]
                      refine obs_step (Eq.trans (by simp only [List.getElem?_toArray, List.getElem?_cons_succ, List.getElem?_cons_zero]; exact rfl) rfl) rfl (fun w' hS hV K hK => ?_) ?_
                      · have e2 : x 2 = (.int .i64 (p)) := hV 2 (by decide)
                        have e3 : x 3 = (.slice (some ⟨g, 0, none⟩) n c1) := hV 3 (by decide)
                        have e4 : x 4 = (.int .i64 (r)) := hV 4 (by decide)
                        have e5 : x 5 = (.pointer (some ⟨g, r, none⟩)) := hV 5 (by decide)
                        have e6 : x 6 = (.slice (some ⟨gr, or', none⟩) m cr) := hV 6 (by decide)
                        have e7 : x 7 = (.slice (some ⟨g, 0, none⟩) n c1) := hV 7 (by decide)
                        have e8 : x 8 = (.int .i64 (dn)) := hV 8 (by decide)
                        have e9 : x 9 = (.pointer (some ⟨g, dn, none⟩)) := hV 9 (by decide)
                        have e10 : x 10 = (.slice Ad2 m cd2) := hV 10 (by decide)
                        have e11 : x 11 = (.slice (some ⟨g, 0, none⟩) n c1) := hV 11 (by decide)
                        have e12 : x 12 = (.int .i64 (r)) := hV 12 (by decide)
                        have e13 : x 13 = (.pointer (some ⟨g, r, none⟩)) := hV 13 (by decide)
                        have e14 : x 14 = (.slice (some ⟨gr, or', none⟩) m cr) := hV 14 (by decide)
                        have e15 : x 15 = (.int .i64 (kn)) := hV 15 (by decide)
                        have e16 : x 16 = (.pointer (some ⟨gr, or' + kn, none⟩)) := hV 16 (by decide)
                        have e17 : x 17 = (.int .i64 (y)) := hV 17 (by decide)
                        have e18 : x 18 = (.int .i64 (-y)) := hV 18 (by decide)
                        have q0 := hS.1; have q1 := hS.2.1; have q2 := hS.2.2.1; have q3 := hS.2.2.2
                        go_simp
                        refine (plus_any p _ m _ _ m _ (-y) _ _ _ hp hp2 hm (Nat.le_refl _) (HRR.out.rd.below hS.2.2.2) HR1.out.2 (HRD.out.rd.below hS.2.2.2) HD1.out.2 (by omega) (by omega)).mono ?_
                        rintro e v1 ⟨A2, c2, rfl, hM⟩
                        exact hK.out _ _ _ rfl rfl ⟨_, _, rfl, hM.after hS.2.2.2⟩ hM.b
                      simp only [List.setIfInBounds_toArray, List.set_cons_zero, List.set_cons_succ]
                      refine obs_step (Eq.trans (by simp only [List.getElem?_toArray, List.getElem?_cons_succ, List.getElem?_cons_zero]; exact rfl) rfl) rfl (fun w' hS hV K hK => ?_) ?_
                      · have e0 : x 0 = (.slice (some ⟨g, 0, none⟩) n c1) := hV 0 (by decide)
                        have e1 : x 1 = (.int .i64 (r)) := hV 1 (by decide)
                        have q0 := hS.1; have q1 := hS.2.1; have q2 := hS.2.2.1; have q3 := hS.2.2.2
                        go_simp
                        exact hK.out _ _ _ rfl rfl rfl (Below.refl _ _)
                      simp only [List.setIfInBounds_toArray, List.set_cons_zero, List.set_cons_succ]
                      refine fun w' hS hV => ?_
                      have e0 : x 0 = (.slice (some ⟨g, 0, none⟩) n c1) := hV 0 (by decide)
                      have e1 : x 1 = (.int .i64 (r)) := hV 1 (by decide)
                      have e2 : x 2 = (.int .i64 (p)) := hV 2 (by decide)
                      have e3 : x 3 = (.slice (some ⟨g, 0, none⟩) n c1) := hV 3 (by decide)
                      have e4 : x 4 = (.int .i64 (r)) := hV 4 (by decide)
                      have e5 : x 5 = (.pointer (some ⟨g, r, none⟩)) := hV 5 (by decide)
                      have e6 : x 6 = (.slice (some ⟨gr, or', none⟩) m cr) := hV 6 (by decide)
                      have e7 : x 7 = (.slice (some ⟨g, 0, none⟩) n c1) := hV 7 (by decide)
                      have e8 : x 8 = (.int .i64 (dn)) := hV 8 (by decide)
                      have e9 : x 9 = (.pointer (some ⟨g, dn, none⟩)) := hV 9 (by decide)
                      have e10 : x 10 = (.slice Ad2 m cd2) := hV 10 (by decide)
                      have e11 : x 11 = (.slice (some ⟨g, 0, none⟩) n c1) := hV 11 (by decide)
                      have e12 : x 12 = (.int .i64 (r)) := hV 12 (by decide)
                      have e13 : x 13 = (.pointer (some ⟨g, r, none⟩)) := hV 13 (by decide)
                      have e14 : x 14 = (.slice (some ⟨gr, or', none⟩) m cr) := hV 14 (by decide)
                      have e15 : x 15 = (.int .i64 (kn)) := hV 15 (by decide)
                      have e16 : x 16 = (.pointer (some ⟨gr, or' + kn, none⟩)) := hV 16 (by decide)
                      have e17 : x 17 = (.int .i64 (y)) := hV 17 (by decide)
                      have e18 : x 18 = (.int .i64 (-y)) := hV 18 (by decide)
                      obtain ⟨A19, c19, e19, h19⟩ := hV 19 (by decide)
                      have e20 : x 20 = (.pointer (some ⟨g, r, none⟩)) := hV 20 (by decide)
                      simp only [e0, e1, e2, e3, e4, e5, e6, e7, e8, e9, e10, e11, e12, e13, e14, e15, e16, e17, e18, e19, e20]
                      clear e0 e1 e2 e3 e4 e5 e6 e7 e8 e9 e10 e11 e12 e13 e14 e15 e16 e17 e18 e19 e20
                      obtain ⟨q0, q1, q2, q3⟩ := hS
                      have ff := (HM4.out.below q3).frozen_ r
                      refine any_one (j := 21) (by kernel_rfl) (Eq.trans (by simp only [List.getElem?_toArray, List.getElem?_cons_succ, List.getElem?_cons_zero]; exact rfl) rfl) (fun K hK => ?_)
                      go_simp
                      refine hK.out _ _ (wpAny_done (by kernel_rfl) ?_ _)
                      have hM5 := HM4.out.setRow h19 r
                      have hM6 : MkII w (w'.setCell ⟨g, r, none⟩ (.slice A19 m c19)) (some ⟨g, 0, none⟩) n c1 (clearTo p N dn kn (r + 1)) := by
                        rw [clearTo_succ p N dn kn r (by rw [HTS.out.2]; exact hlr) hrd, HEY.out]; exact hM5
                      clear q0 q1 q2 q3 ff hM5 h19
                      go_wp2
                      go_roundw
                      case rel => exact ⟨r + 1, by omega, by go_num, hM6⟩
                      case measure => simp [intOf]; omega
                · obtain rfl : r = n := by omega
                  have HM4 := Lib.hid hM4
                  clear hM4
                  go_wp2
                  go_roundw
                  case rel => exact ⟨dn + 1, kn + 1, by go_num, by go_num, by omega, by rw [HNEXT.out], by rw [HNEXT.out]; exact HM4.out⟩
                  case measure => simp [intOf]; omega
            · have hx0' : xe = 0 := by simpa using hz
              go_wp2
              go_round
              case rel => exact ⟨j + 1, by omega, by omega, by go_num, Lib.hid (by rw [← hj3.out, HPV.out, if_pos (by rw [HE.out]; exact hx0')])⟩
              case measure => simp [intOf]; omega
          · obtain rfl : j = n := by omega
            have HVP : Hid (pivOf L kn dn = j) := Lib.hid (by rw [← hj3.out, Nat.sub_self]; rfl)
            have HNEXT : Hid (basisTo p M (kn + 1) = (L, dn)) := Lib.hid (by
              rw [HSUC.out]; unfold stepB; rw [if_pos (by simp only; rw [HVP.out, HL1.out])])
            go_wp2
            go_roundw
            case rel => exact ⟨dn, kn + 1, rfl, by go_num, by omega, by rw [HNEXT.out], by rw [HNEXT.out]; exact HM.out⟩
            case measure => simp [intOf]; omega
      · have HBE : Hid (basisL p M = L.take dn ∧ (L.take dn).length = dn) := Lib.hid ⟨by
          by_cases hk2 : kn = m
          · exact HEND.out hk2
          · exact HFULL.out (by omega), by rw [List.length_take, HL1.out]; omega⟩
        by_cases hk3 : kn < m
        all_goals go_wp2
        all_goals
          go_ret
          rw [HBE.out.1, HBE.out.2]
          exact ⟨_, _, rfl, HM.out.cut hd1⟩
  · obtain rfl : n = 0 := by omega
    obtain rfl : M = [] := List.eq_nil_of_length_eq_zero hML
    clear hT HT
    have HBN := Lib.hid (basisL_nil p)
    go_enter Tryz.func324, Tryz.ntmps324
    go_wp2_with fail
    refine hclone.mono ?_
    rintro e w1 ⟨A1, c1, rfl, hM1⟩
    clear hclone
    go_wp2
    go_loopw [6, 7] (fun d q wr => d = .int .i64 0 ∧ q = .int .i64 0 ∧ wr = w1) (fun _ _ _ => 0)
    case atStart => exact ⟨rfl, rfl, rfl⟩
    case round =>
      obtain ⟨rfl, rfl, rfl⟩ := hrel
      rcases hM1 with ⟨rows, hm1, hn1⟩
      have hcap := hm1.2.cap
      rcases hm1.2.form with ⟨rfl, _⟩ | ⟨g, rfl, _, _⟩
      all_goals
        go_wp2
        go_ret
        rw [HBN.out]
        exact ⟨_, _, rfl, rows, hm1, hn1⟩
end Go.Proofs.YtggigolkncckoaaGreat
namespace Go.Proofs.YtggigolkncckoaaGreat
open Go.RowKit Go.Maps
/-- The map from the places of the firsts to the rows, of the first j rows. -/
structure Places {H : Type} (B : List (List Int)) (j : Nat) (D : DataW H) : Prop where
  map : IsMap D
  has : ∀ k : Nat, Maps.has D (.int .i64 k) = true ↔ ∃ i, i < j ∧ ld B i = k
  only : ∀ z : Lit, Maps.has D z = true → ∃ k : Nat, z = .int .i64 k
  val : ∀ i, i < j → ∀ zd, D.atKey (.int .i64 (ld B i)) zd = .lit (.int .i64 i)
theorem Places.start {H : Type} (B : List (List Int)) : Places B 0 (.map [] : DataW H) :=
  ⟨isMap_empty, fun k => ⟨fun h => by simp [has_eq] at h, fun ⟨i, hi, _⟩ => absurd hi (by omega)⟩, fun z h => by simp [has_eq] at h, fun i hi => absurd hi (by omega)⟩
theorem lit_ne {a b : Int} (h : a ≠ b) : Lit.int .i64 a ≠ Lit.int .i64 b := fun e => h (by injection e)
theorem Places.step {H : Type} {n : Nat} {B : List (List Int)} (hR : Red n B) {j : Nat} {D : DataW H} (h : Places B j D) (hj : j < B.length) : Places B (j + 1) (D.put (.int .i64 (ld B j)) (.lit (.int .i64 j))) := by
  refine ⟨h.map.put _ _, fun k => ?_, fun z hz => ?_, fun i hi zd => ?_⟩
  · by_cases hk : k = ld B j
    · subst hk
      exact ⟨fun _ => ⟨j, by omega, rfl⟩, fun _ => has_put_same h.map (show WideAt.IsKeyLit (.int .i64 (ld B j)) from trivial) _⟩
    · rw [has_put_other (lit_ne (by omega)), h.has k]
      constructor
      · rintro ⟨i, hi, e⟩; exact ⟨i, by omega, e⟩
      · rintro ⟨i, hi, e⟩
        refine ⟨i, ?_, e⟩
        by_cases hij : i = j
        · subst hij; exact absurd e.symm hk
        · omega
  · by_cases hk : z = .int .i64 (ld B j)
    · exact ⟨_, hk⟩
    · rw [has_put_other hk] at hz
      exact h.only z hz
  · by_cases hij : i = j
    · subst hij
      exact atKey_put_same h.map (show WideAt.IsKeyLit (.int .i64 (ld B i)) from trivial) _ _
    · rw [atKey_put_other (lit_ne (fun e => hij (hR.inj (by omega) hj (by omega))))]
      exact h.val i (by omega) zd
theorem Places.isLd {H : Type} {B : List (List Int)} {D : DataW H} (h : Places B B.length D) (k : Nat) : Maps.has D (.int .i64 k) = isLd B k := by
  cases hh : Maps.has D (.int .i64 k) with
  | true => exact (isLd_iff.2 ((h.has k).1 hh)).symm
  | false =>
    cases hi : Proofs.YtggigolkncckoaaGreat.isLd B k with
    | false => rfl
    | true => rw [(h.has k).2 (isLd_iff.1 hi)] at hh; cases hh
theorem ownsMap_below {H : Type} {P : Program} {k : TypeId} {R : Value → Option (DataW H × List MemPlace)} {w w' : World} {b n X : Nat} {D : DataW H} (h : w.ownsMap P k R b n D) (hb : Below X w w') (hX : b < X) : w'.ownsMap P k R b n D := by
  obtain ⟨es, clock, e, r⟩ := h
  exact ⟨es, clock, (hb.block b hX).trans e, r⟩
theorem below_grown_of {w w' : World} {row : Option Nat} {X : Nat} {a : World} (h : Below X a w) (hg : w.grownBy w' row) (hX : X ≤ w.heap.size) (hr : ∀ k, row = some k → X ≤ k) : Below X a w' := h.grown hg hX (fun k hk => hr k hk)
theorem keyedInt : Keyed Tryz.prog 3 := int_keyed Tryz.underlying3
theorem sameKey_int (a b : Int) : (Lit.int .i64 a).sameKey (.int .i64 b) = (a == b) := by
  rw [Bool.eq_iff_iff]
  simp [Lit.sameKey]
theorem zero_int (w : World) : (zeroValue 3).run Tryz.prog w = .ok (.int .i64 0) w := by kernel_rfl
set_option maxHeartbeats 6400000 in
set_option maxRecDepth 8000 in
theorem kernel_any (p : Int) (A : Option Addr) (r0 c : Nat) (M : List (List Int)) (n : Nat) (w : World) (HP : isP p = true) (hr0 : r0 ≤ 65536) (hn : n ≤ 65536) (ha : RdII w A r0 M) (hT : Tab p n M) :
    Calls Tryz.prog 213 #[.int .i64 p, .slice A r0 c, .int .i64 n] w fun e w' => ∃ A' c', e = .returned (.slice A' (kernL p M n).length c') ∧ MkII w w' A' (kernL p M n).length c' (kernL p M n) := by
  obtain ⟨hp3, hp2⟩ := isP_ge HP
  have hp : 2 ≤ p := by omega
  have hbas := basis_any p A r0 c M n w HP hr0 hn ha hT
  have hred := basisL_red HP M hT
  have htab := basisL_tab (p := p) (by omega) M hT
  have HKL : Hid (kernL p M n = basisL p (freeTo p (basisL p M) n n)) := Lib.hid rfl
  have hdl := hred.len
  obtain ⟨B, hB⟩ : ∃ B, B = basisL p M := ⟨_, rfl⟩
  rw [← hB] at hbas hred htab hdl HKL
  have HRED := Lib.hid hred
  have HTAB := Lib.hid htab
  have HP' := Lib.hid HP
  obtain ⟨d, hd⟩ : ∃ d, d = B.length := ⟨_, rfl⟩
  rw [← hd] at hbas hdl
  have HD := Lib.hid hd
  clear hB hT ha hred htab HP hd
  have hmm := @run_makeMap Tryz.prog
  go_enter Tryz.func213, Tryz.ntmps213
  go_wp2_with fail
  refine hbas.mono ?_
  rintro e w1 ⟨A1, c1, rfl, hM1⟩
  clear hbas
  go_wp2
  obtain ⟨b, hb⟩ : ∃ b, b = w1.heap.size := ⟨_, rfl⟩
  obtain ⟨w2, hw2⟩ : ∃ W, W = w1.alloc (.map #[] 0) := ⟨_, rfl⟩
  have hown0 : w2.ownsMap (H := Unit) Tryz.prog 3 (plainElem Tryz.prog 3) b 0 (.map []) := by rw [hw2, hb]; exact World.ownsMap_made _ _ _ _
  have hB0 : Below b w1 w2 := by rw [hw2, hb]; exact (Below.refl _ _).alloc (Nat.le_refl _) _
  have hsz2 : w2.heap.size = b + 1 := by rw [hw2, hb]; simp
  have hbsz : b ≤ w2.heap.size := by omega
  rw [← hw2]
  try rw [← hb]
  clear hw2 hmm
  have HM1 := Lib.hid hM1
  have HBB := Lib.hid hb
  clear hM1 hb
  go_loopw [9, 10, 24] (fun _ _ i wr => ∃ (j : Nat) (D : DataW Unit), j ≤ d ∧ i = .int .i64 j ∧ wr.ownsMap Tryz.prog 3 (plainElem Tryz.prog 3) b j D ∧ Hid (Places B j D) ∧ Below b w1 wr ∧ b < wr.heap.size) (fun _ _ i _ => d - (intOf i).toNat)
  case atStart => exact ⟨0, _, by omega, rfl, hown0, Lib.hid (Places.start B), hB0, by omega⟩
  case round =>
    obtain ⟨j, D, hj, rfl, hown, hpl, hBl, hbl⟩ := hrel
    clear hown0 hB0 hsz2 hbsz
    by_cases hlj : j < d
    · obtain ⟨g, o, rfl, hxj, Aj, cj, hcj, hrj, -⟩ := (HM1.out.rd.below (by rw [← HBB.out]; exact hBl)).at_ hlj
      have HRJ := Lib.hid (HTAB.out B[j] (List.getElem_mem hxj))
      have hl := HRJ.out.1
      rw [hl] at hcj hrj
      have HLD : Hid (leadL B[j] = ld B j) := Lib.hid (by unfold ld; rw [getD_of_lt [] hxj])
      have hld := HRED.out.lt j hxj
      have hlead := fun w' (h : Rd w' Aj n (ints B[j])) => lead_any Aj n cj B[j] w' (by omega) h
      rw [HLD.out] at hlead
      have HPL : Hid (Places B (j + 1) (D.put (.int .i64 (ld B j)) (.lit (.int .i64 j)))) := Lib.hid (hpl.out.step HRED.out hxj)
      obtain ⟨l, hl'⟩ : ∃ l, l = ld B j := ⟨_, rfl⟩
      rw [← hl'] at hlead HPL hld
      clear hl hl' HLD
      go_wp2_with (first
        | (go_at_call 243; refine (hlead _ hrj).mono ?_; rintro e w' ⟨rfl, rfl⟩)
        | (at_mapUpdate; refine wpList_mapUpdate_own _ rfl _ _ _ 158 rfl 3 3 keyedInt Tryz.underlying158 _ b j _ rfl hown (by unfold maxLen; omega) _ _ _ rfl rfl (keyOf_int_mk Tryz.underlying3 (WalkArith.wf_i64 (by omega))) _ [] (plainElem_int Tryz.underlying3 (WalkArith.wf_i64 (by omega))) ?_; intro w3 hown3 hgrow3))
      go_roundw
      case rel => exact ⟨j + 1, _, by omega, by go_num, hown3, HPL, below_grown_of hBl hgrow3 (by omega) (fun k hk => by injection hk with hk; omega), by have := hgrow3.size; omega⟩
      case measure => simp [intOf]; omega
    · obtain rfl : j = d := by omega
      have HPL : Hid (Places B B.length D) := Lib.hid (by rw [← HD.out]; exact hpl.out)
      have hM0 : MkII wr (wr.alloc (.cells #[] 24)) (some ⟨wr.heap.size, 0, none⟩) 0 0 (freeTo p B n 0) := MkII.empty (Below.refl _ _)
      obtain ⟨wb, hwb⟩ : ∃ W, W = wr := ⟨_, rfl⟩
      rw [← hwb] at hM0 hown hBl hbl ⊢
      clear hwb hpl
      have hmk := make_i (P := Tryz.prog) 24 2 Tryz.underlying24 info_i n (by omega)
      go_wp2
      obtain ⟨w4, hw4⟩ : ∃ W, W = wb.alloc (.cells #[] 24) := ⟨_, rfl⟩
      rw [← hw4] at hM0 ⊢
      clear hw4
      go_loopw [11, 36] (fun out i wr => ∃ (f q : Nat) (A' : Option Addr) (c' : Nat), f ≤ n ∧ q ≤ f ∧ i = .int .i64 f ∧ out = .slice A' q c' ∧ MkII wb wr A' q c' (freeTo p B n f)) (fun _ i _ => n - (intOf i).toNat)
      case atStart => exact ⟨0, 0, _, _, by omega, by omega, rfl, rfl, hM0⟩
      case round =>
        obtain ⟨f, q, A', c', hf, hq, rfl, rfl, hM⟩ := hrel
        clear hM0
        obtain ⟨wo, rfl⟩ : ∃ W, W = wr := ⟨_, rfl⟩
        have hsz := hM.b.size
        have hownO := ownsMap_below hown hM.b hbl
        have hisl := HPL.out.isLd f
        have HM := Lib.hid hM
        clear hM
        by_cases hlf : f < n
        · cases hlb : isLd B f
          · rw [hlb] at hisl
            have HIS := Lib.hid hisl
            have hm1 := Mk.made (E := 2) (n := n) (z := .int .i64 0) (Below.refl wo.heap.size wo) (by simp only [maxLen]; omega)
            rw [ints_replicate] at hm1
            obtain ⟨u1, hc1⟩ := hm1.2.cellI hlf
            have hf1 := hm1.2.frozen_ f
            have hm2 := (hm1.set f (.int .i64 1)).1
            rw [ints_set, World.setCell_alloc_at _ _ _ _ _ rfl] at hm2
            have HM2 := Lib.hid hm2
            have HOWN := Lib.hid (ownsMap_below hown (HM.out.b.trans (hm2.b.mono HM.out.b.size)) hbl)
            clear hm1 hm2 hisl
            go_wp2_with (first
              | (at_lookup; refine wpList_lookup_own_ok_int _ rfl _ _ 158 rfl 3 3 .i64 keyedInt Tryz.underlying158 Tryz.underlying3 (zero_int _) b j D rfl hownO _ _ rfl (keyOf_int_mk Tryz.underlying3 (WalkArith.wf_i64 (by omega))) ?_; intro cv hat hwc; rw [HIS.out]; clear hat hwc)
              | (at_range; refine wpList_range_own _ rfl _ 158 rfl 3 3 keyedInt Tryz.underlying158 _ b j D rfl HOWN.out ?_; intro w0 hrg0 hg0 hs0))
            go_frame
            have e1 : w0.heap.size = wo.heap.size + 1 + 1 := by rw [hs0]; simp
            rw [show ∀ o : Obj, (wo.alloc o).heap.size = wo.heap.size + 1 from fun o => by simp] at hrg0 ⊢
            have hm3 : MkI wo w0 (some ⟨wo.heap.size, 0, none⟩) n n (unitRow n f) := ⟨HM2.out.1.grown hg0 HM2.out.1.size (fun k hk => by cases hk), HM2.out.2.grown hg0 (.inr (by simp [Value.ownBlock]))⟩
            clear hg0 hs0 HM2 HOWN hc1 hf1 hownO
            go_loopw [16] (fun _ wr => ∃ (left : Lit → Bool) (cnt : Nat), wr.ranges Tryz.prog 3 (plainElem Tryz.prog 3) b (wo.heap.size + 1) j D left cnt ∧ MkI wo wr (some ⟨wo.heap.size, 0, none⟩) n n (freePart p B n f (fun k => left (.int .i64 k))) ∧ Hid (∀ z, left z = true → Maps.has D z = true)) (fun _ wr => wr.rangeLeft b (wo.heap.size + 1))
            case atStart => exact ⟨_, _, hrg0, by rw [freePart_start p B n f hlf _ (fun k _ hk => by rw [HPL.out.isLd]; exact hk)]; exact hm3, Lib.hid (fun _ h => h)⟩
            case round =>
              obtain ⟨left, cnt, hrg, hmv, hsub⟩ := hrel
              clear hrg0 hm3 e1
              go_wp2_with (at_next; refine wpList_next_ranges_ii _ rfl _ rfl 3 3 .i64 .i64 keyedInt Tryz.underlying3 Tryz.underlying3 b (wo.heap.size + 1) j _ _ _ rfl hrg ?_ ?_)
              · intro hc0 hl0
                have hfin : freePart p B n f (fun k => left (.int .i64 k)) = freeRow p B n f := freePart_congr p B n f (fun k _ => hl0 _)
                rw [hfin] at hmv
                have HMV := Lib.hid hmv
                clear hmv hfin hl0
                go_wp2_with (at_builtin; refine wpList_appRow wb wo _ rfl _ _ rfl A' q c' _ _ n n _ HM.out HMV.out (by omega) rfl ?_ ?_; (go_simp); intro A6 c6 w6 hM6)
                go_roundw
                case rel => exact ⟨f + 1, q + 1, A6, c6, by omega, by omega, by go_num, rfl, by rw [freeTo_take hlb]; exact hM6⟩
                case measure => simp [intOf]; omega
              · intro x cv w7 cnt1 hwx hwc hlx hat hrg1 hlt hg1 hs1 hen
                obtain ⟨kx, hkx⟩ := HPL.out.only _ (hsub.out _ hlx)
                obtain ⟨i, hi, hik⟩ := (HPL.out.has kx).1 (by rw [← hkx]; exact hsub.out _ hlx)
                have hxi : x = ((ld B i : Nat) : Int) := by injection hkx with _ hkx; rw [hkx, hik]
                have hcv : cv = (i : Int) := by
                  have h1 := HPL.out.val i hi (.lit (.int .i64 0))
                  have h2 := hat (.lit (.int .i64 0))
                  rw [hxi, h1] at h2
                  injection h2 with h2
                  injection h2 with _ h2
                  exact h2.symm
                have hb7 : Below w1.heap.size w1 w7 := by
                  have h1 : Below b wb wo := HM.out.b.mono (by omega)
                  have h2 : Below b wo wr := hmv.b.mono (by omega)
                  have h3 := ((hBl.trans h1).trans h2).grown hg1 (by have := hmv.b.size; omega) (fun k hk => by injection hk with hk; omega)
                  rw [← HBB.out]; exact h3
                have hmv7 : MkI wo w7 (some ⟨wo.heap.size, 0, none⟩) n n (freePart p B n f (fun k => left (.int .i64 k))) := ⟨hmv.1.grown hg1 hmv.1.size (fun k hk => by injection hk with hk; omega), hmv.2.grown hg1 (.inr (by simp [Value.ownBlock]))⟩
                obtain ⟨g, o, rfl, hxl, Ai, ci, hci, hri, -⟩ := (HM1.out.rd.below hb7).at_ (show i < j by rw [HD.out]; exact hi)
                have HRI := Lib.hid (HTAB.out B[i] (List.getElem_mem hxl))
                have hl := HRI.out.1
                rw [hl] at hci hri
                obtain ⟨gi, oi, rfl, hxe, hce⟩ := hri.int hlf
                have HE : Hid (ent B i f = B[i][f]) := Lib.hid (ent_at' hxl hxe)
                obtain ⟨y, hy⟩ : ∃ y, y = B[i][f] := ⟨_, rfl⟩
                have hyb : 0 ≤ y ∧ y < p := hy ▸ HRI.out.2 _ (List.getElem_mem hxe)
                rw [← hy] at hce HE
                have hld := HRED.out.lt i hi
                have hij : i < j := by rw [HD.out]; exact hi
                obtain ⟨hoc, hof⟩ := mkI_at hmv7 hld
                have HSET := Lib.hid (hmv7.set (ld B i) (.int .i64 ((-y) % p)))
                have HST : Hid ((freePart p B n f (fun k => left (.int .i64 k))).set (ld B i) ((-y) % p) = freePart p B n f (fun k => left (.int .i64 k) && !(k == ld B i))) := Lib.hid (by rw [← HE.out]; exact freePart_step HRED.out hi hlb _)
                have hmb := emod_small (-y) p (by omega)
                have HRG := Lib.hid hrg
                have HRG1 := Lib.hid hrg1
                have HSUB := Lib.hid hsub
                subst hxi
                subst hcv
                have hwy := i64_small (x := -y) (by omega) (by omega)
                obtain ⟨l, hl'⟩ : ∃ l, l = ld B i := ⟨_, rfl⟩
                rw [← hl'] at hoc hof HSET HST HRG1 hen hld ⊢
                clear hl hl' hy hri HRI hxl hxe hat hkx hik hlx hwx hwc hmv7 hb7 hmv hsub hrg hrg1 hg1 hs1
                go_wp2_with (go_at_call 200; refine (num_any p (-y) _ (by omega) hp2 (by omega) (by omega)).mono ?_; rintro e w' ⟨rfl, rfl⟩)
                go_roundw
                case rel =>
                  have hs := HSET.out.1
                  rw [ints_set, HST.out] at hs
                  refine ⟨_, cnt1, HRG1.out.kept HSET.out.2 (fun e => by have := Option.some.inj e; omega) (fun e => by have := Option.some.inj e; omega), ?_, Lib.hid (fun z hz => HSUB.out.out z (by simp only [Bool.and_eq_true] at hz; exact hz.1))⟩
                  refine (freePart_congr p B n f (fun k _ => ?_)) ▸ hs
                  show (left (.int .i64 k) && !(k == l)) = (left (.int .i64 k) && !(Lit.int .i64 (k : Int)).sameKey (.int .i64 (l : Int)))
                  have e : (k == l) = ((k : Int) == (l : Int)) := by
                    rw [Bool.eq_iff_iff, beq_iff_eq, beq_iff_eq]
                    constructor <;> intro h <;> omega
                  rw [sameKey_int, e]
                case measure => rw [(HRG1.out.kept HSET.out.2 (fun e => by have := Option.some.inj e; omega) (fun e => by have := Option.some.inj e; omega)).left_eq, HRG.out.left_eq]; exact hlt
          · rw [hlb] at hisl
            have HIS := Lib.hid hisl
            clear hisl
            go_wp2_with (at_lookup; refine wpList_lookup_own_ok_int _ rfl _ _ 158 rfl 3 3 .i64 keyedInt Tryz.underlying158 Tryz.underlying3 (zero_int _) b j D rfl hownO _ _ rfl (keyOf_int_mk Tryz.underlying3 (WalkArith.wf_i64 (by omega))) ?_; intro cv hat hwc; rw [HIS.out]; clear hat hwc)
            go_roundw
            case rel => exact ⟨f + 1, q, A', c', by omega, by omega, by go_num, rfl, by rw [freeTo_skip hlb]; exact HM.out⟩
            case measure => simp [intOf]; omega
        · obtain rfl : f = n := by omega
          have hlast := basis_any p A' q c' (freeTo p B f f) f wo HP'.out (by omega) hn HM.out.rd (freeTo_tab hp B f f)
          have hbw : Below w.heap.size w wo := by
            have h1 : Below w1.heap.size w1 wb := HBB.out ▸ hBl
            exact (HM1.out.b.trans (h1.mono HM1.out.b.size)).trans (HM.out.b.mono (by have := HM1.out.b.size; have := h1.size; omega))
          go_wp2_with fail
          refine hlast.mono ?_
          rintro e w5 ⟨A5, c5, rfl, hM5⟩
          go_wp2
          go_ret
          rw [HKL.out]
          exact ⟨_, _, rfl, hM5.after hbw⟩
end Go.Proofs.YtggigolkncckoaaGreat

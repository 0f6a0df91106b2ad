/-
  Copies of lists; signs by grades: reverses and involutes. The program's functions.
-/
import Derived.Test.YtommppijnccomaaGreatParts
namespace Go.Proofs.YtommppijnccomaaGreat
open Go.RowKit

set_option maxRecDepth 8000 in
set_option maxHeartbeats 400000 in
theorem clone_any (A : Option Addr) (n c : Nat) (xs : List Int) (w : World) (hn : n ≤ 65536) (ha : Rd w A n (ints xs)) :
    Calls Tryz.prog 150 #[.slice A n c] w fun e w' => ∃ A' c', e = .returned (.slice A' n c') ∧ MkI w w' A' n c' xs := by
  have hxl : xs.length = n := by have := ha.1; rwa [ints_length] at this
  cases A with
  | none =>
    have h0 : n = 0 := by
      rcases Nat.eq_zero_or_pos n with h | h
      · exact h
      · obtain ⟨g, o, e, _⟩ := ha.2 h; cases e
    subst h0
    have hxs : xs = [] := List.eq_nil_of_length_eq_zero hxl
    subst hxs
    clear ha hxl hn
    have hq := fun w : World => Lib.run_eql_slice_nil (P := Tryz.prog) w 22 2 none 0 c 0 0 Tryz.underlying22
    simp only [Option.isNone_none] at hq
    go_enter Tryz.func150, Tryz.ntmps150
    go_wp2
    go_ret
    exact ⟨none, 0, rfl, Mk.nil (Below.refl _ _)⟩
  | some p =>
    have hM0 := Mk.lit (E := 2) (Below.refl w.heap.size w) #[] (by simp)
    obtain ⟨i, hi, h1, h2, h3⟩ := info_parts info_i
    obtain ⟨b1, b2⟩ := bound_of (Nat.le_trans hn (by decide))
    clear b1
    have HB := Lib.hid b2
    clear b2
    have hnews : ∀ (j : Nat) (u : Value), (ints xs)[j]? = some u → (w.alloc (.cells #[] 2)).cell? (p.add j) = some u := fun j u hu => by
      have hj : j < n := by have := (List.getElem?_eq_some_iff.1 hu).1; rw [ints_length] at this; omega
      obtain ⟨g, o, e, hc⟩ := (ha.below ((Below.refl _ w).alloc (Nat.le_refl _) (.cells #[] 2))).2 (by omega)
      injection e with e; subst e
      rw [Addr.add_lit]
      exact hc j u hu
    have Hx := Lib.hid hxl
    have HN := Lib.hid hnews
    have HI := Lib.hid hi
    have H1 := Lib.hid h1
    have H2 := Lib.hid h2
    have H3 := Lib.hid h3
    clear hnews hi h1 h2 h3 hxl
    have hq := fun w : World => Lib.run_eql_slice_nil (P := Tryz.prog) w 22 2 (some p) n c 0 0 Tryz.underlying22
    simp only [Option.isNone_some] at hq
    go_enter Tryz.func150, Tryz.ntmps150
    go_wp2_with (at_builtin; refine wpList_append_own_at (w.alloc (.cells #[] 2)) rfl _ _ 22 rfl w.heap.size 2 i _ 1 8 Tryz.underlying22 HI.out H1.out H2.out H3.out rfl (by omega) (.slice (some ⟨w.heap.size, 0, none⟩) 0 0) 0 [] rfl hM0.2 p n c (ints xs) rfl (by rw [ints_length, Hx.out, Nat.mul_one]) HN.out (by intro u hu; obtain ⟨y, _, rfl⟩ := List.mem_map.1 hu; rfl) (by simp only [maxLen]; omega) (by have := HB.out 8 (by omega); omega) (by simp) ?_; intro v' w' hown hg _ _)
    have hb' : Below w.heap.size w w' := hM0.1.grown hg (by simp) (fun k hk => (hM0.2.lt k hk).1)
    rw [Nat.zero_add, List.nil_append] at hown
    rcases hown.2 with ⟨rfl, h0⟩ | ⟨g, cap, cur, rfl, hr⟩
    · subst h0
      go_ret
      exact ⟨none, 0, rfl, hb', hown⟩
    · go_ret
      exact ⟨_, _, rfl, hb', hown⟩

/-- The blades of the grades that t tells turned to their negatives. -/
def sgnL (p : Int) (t : Nat → Bool) (xs : List Int) : List Int := tab xs.length fun i => if t (pc i) then (-(xs.getD i 0)) % p else xs.getD i 0
theorem sgnL_len (p : Int) (t : Nat → Bool) (xs : List Int) : (sgnL p t xs).length = xs.length := tab_len _ _
theorem sgnL_nums {p : Int} (hp : 0 < p) (t : Nat → Bool) {xs : List Int} (h : NumsL p xs) : NumsL p (sgnL p t xs) := NumsL.tab fun i _ => by
  split
  · exact ⟨Int.emod_nonneg _ (by omega), Int.emod_lt_of_pos _ hp⟩
  · exact h.getD hp i
theorem sgnL_getD {p : Int} {t : Nat → Bool} {xs : List Int} {i : Nat} (h : i < xs.length) : (sgnL p t xs).getD i 0 = if t (pc i) then (-(xs.getD i 0)) % p else xs.getD i 0 := tab_getD h 0

/-- The first k places of f, then those of xs. -/
def mixL (f : Nat → Int) (xs : List Int) (k : Nat) : List Int := tab xs.length fun i => if i < k then f i else xs.getD i 0
theorem mixL_len (f : Nat → Int) (xs : List Int) (k : Nat) : (mixL f xs k).length = xs.length := tab_len _ _
theorem mixL_zero (f : Nat → Int) (xs : List Int) : mixL f xs 0 = xs := by
  refine Eq.trans (tab_congr fun i _ => ?_) (eq_tab 0 rfl).symm
  rw [if_neg (by omega)]
theorem mixL_all (f : Nat → Int) (xs : List Int) : mixL f xs xs.length = tab xs.length f := tab_congr fun _i hi => if_pos hi
theorem mixL_succ (f : Nat → Int) (xs : List Int) (k : Nat) (hk : k < xs.length) : mixL f xs (k + 1) = (mixL f xs k).set k (f k) := by
  apply list_ext_getD 0 (by rw [List.length_set, mixL_len, mixL_len])
  intro i hi
  rw [mixL_len] at hi
  rw [getD_set, mixL_len]
  unfold mixL
  rw [tab_getD hi, tab_getD hi]
  by_cases h : k = i
  · subst h; rw [if_pos (by omega), if_pos ⟨rfl, hk⟩]
  · rw [if_neg (c := k = i ∧ _) (fun hh => h hh.1)]
    by_cases h2 : i < k
    · rw [if_pos (by omega), if_pos h2]
    · rw [if_neg (by omega), if_neg h2]
theorem mixL_skip (f : Nat → Int) (xs : List Int) (k : Nat) (hf : f k = xs.getD k 0) : mixL f xs (k + 1) = mixL f xs k := by
  refine tab_congr fun i _ => ?_
  by_cases h : i < k
  · rw [if_pos (by omega), if_pos h]
  · by_cases h2 : i = k
    · subst h2; rw [if_pos (by omega), if_neg (by omega), hf]
    · rw [if_neg (by omega), if_neg h]


def revT (k : Nat) : Bool := k * (k - 1) / 2 % 2 == 1
def oddT (k : Nat) : Bool := k % 2 == 1

def revL (p : Int) (xs : List Int) : List Int := sgnL p revT xs
def invoL (p : Int) (xs : List Int) : List Int := sgnL p oddT xs


end Go.Proofs.YtommppijnccomaaGreat

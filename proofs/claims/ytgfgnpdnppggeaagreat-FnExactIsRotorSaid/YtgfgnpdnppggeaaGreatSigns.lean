/-
  Copies of lists; signs by grades: reverses and involutes. The program's functions.
-/
import Derived.Test.YtgfgnpdnppggeaaGreatParts
namespace Go.Proofs.YtgfgnpdnppggeaaGreat
open Go.RowKit

set_option maxRecDepth 8000 in
set_option maxHeartbeats 400000 in
theorem clone_any (A : Option Addr) (n c : Nat) (xs : List Int) (w : World) (hn : n ≤ 65536) (ha : Rd w A n (ints xs)) :
    Calls Tryz.prog 164 #[.slice A n c] w fun e w' => ∃ A' c', e = .returned (.slice A' n c') ∧ MkI w w' A' n c' xs := by
  have hxl : xs.length = n := by have := ha.1; rwa [ints_length] at this
  cases A with
  | none =>
    have h0 : n = 0 := by
      rcases Nat.eq_zero_or_pos n with h | h
      · exact h
      · obtain ⟨g, o, e, _⟩ := ha.2 h; cases e
    subst h0
    have hxs : xs = [] := List.eq_nil_of_length_eq_zero hxl
    subst hxs
    clear ha hxl hn
    have hq := fun w : World => Lib.run_eql_slice_nil (P := Tryz.prog) w 22 2 none 0 c 0 0 Tryz.underlying22
    simp only [Option.isNone_none] at hq
    go_enter Tryz.func164, Tryz.ntmps164
    go_wp2
    go_ret
    exact ⟨none, 0, rfl, Mk.nil (Below.refl _ _)⟩
  | some p =>
    have hM0 := Mk.lit (E := 2) (Below.refl w.heap.size w) #[] (by simp)
    obtain ⟨i, hi, h1, h2, h3⟩ := info_parts info_i
    obtain ⟨b1, b2⟩ := bound_of (Nat.le_trans hn (by decide))
    clear b1
    have HB := Lib.hid b2
    clear b2
    have hnews : ∀ (j : Nat) (u : Value), (ints xs)[j]? = some u → (w.alloc (.cells #[] 2)).cell? (p.add j) = some u := fun j u hu => by
      have hj : j < n := by have := (List.getElem?_eq_some_iff.1 hu).1; rw [ints_length] at this; omega
      obtain ⟨g, o, e, hc⟩ := (ha.below ((Below.refl _ w).alloc (Nat.le_refl _) (.cells #[] 2))).2 (by omega)
      injection e with e; subst e
      rw [Addr.add_lit]
      exact hc j u hu
    have Hx := Lib.hid hxl
    have HN := Lib.hid hnews
    have HI := Lib.hid hi
    have H1 := Lib.hid h1
    have H2 := Lib.hid h2
    have H3 := Lib.hid h3
    clear hnews hi h1 h2 h3 hxl
    have hq := fun w : World => Lib.run_eql_slice_nil (P := Tryz.prog) w 22 2 (some p) n c 0 0 Tryz.underlying22
    simp only [Option.isNone_some] at hq
    go_enter Tryz.func164, Tryz.ntmps164
    go_wp2_with (at_builtin; refine wpList_append_own_at (w.alloc (.cells #[] 2)) rfl _ _ 22 rfl w.heap.size 2 i _ 1 8 Tryz.underlying22 HI.out H1.out H2.out H3.out rfl (by omega) (.slice (some ⟨w.heap.size, 0, none⟩) 0 0) 0 [] rfl hM0.2 p n c (ints xs) rfl (by rw [ints_length, Hx.out, Nat.mul_one]) HN.out (by intro u hu; obtain ⟨y, _, rfl⟩ := List.mem_map.1 hu; rfl) (by simp only [maxLen]; omega) (by have := HB.out 8 (by omega); omega) (by simp) ?_; intro v' w' hown hg _ _)
    have hb' : Below w.heap.size w w' := hM0.1.grown hg (by simp) (fun k hk => (hM0.2.lt k hk).1)
    rw [Nat.zero_add, List.nil_append] at hown
    rcases hown.2 with ⟨rfl, h0⟩ | ⟨g, cap, cur, rfl, hr⟩
    · subst h0
      go_ret
      exact ⟨none, 0, rfl, hb', hown⟩
    · go_ret
      exact ⟨_, _, rfl, hb', hown⟩

/-- The blades of the grades that t tells turned to their negatives. -/
def sgnL (p : Int) (t : Nat → Bool) (xs : List Int) : List Int := tab xs.length fun i => if t (pc i) then (-(xs.getD i 0)) % p else xs.getD i 0
theorem sgnL_len (p : Int) (t : Nat → Bool) (xs : List Int) : (sgnL p t xs).length = xs.length := tab_len _ _
theorem sgnL_nums {p : Int} (hp : 0 < p) (t : Nat → Bool) {xs : List Int} (h : NumsL p xs) : NumsL p (sgnL p t xs) := NumsL.tab fun i _ => by
  split
  · exact ⟨Int.emod_nonneg _ (by omega), Int.emod_lt_of_pos _ hp⟩
  · exact h.getD hp i
theorem sgnL_getD {p : Int} {t : Nat → Bool} {xs : List Int} {i : Nat} (h : i < xs.length) : (sgnL p t xs).getD i 0 = if t (pc i) then (-(xs.getD i 0)) % p else xs.getD i 0 := tab_getD h 0

/-- The first k places of f, then those of xs. -/
def mixL (f : Nat → Int) (xs : List Int) (k : Nat) : List Int := tab xs.length fun i => if i < k then f i else xs.getD i 0
theorem mixL_len (f : Nat → Int) (xs : List Int) (k : Nat) : (mixL f xs k).length = xs.length := tab_len _ _
theorem mixL_zero (f : Nat → Int) (xs : List Int) : mixL f xs 0 = xs := by
  refine Eq.trans (tab_congr fun i _ => ?_) (eq_tab 0 rfl).symm
  rw [if_neg (by omega)]
theorem mixL_all (f : Nat → Int) (xs : List Int) : mixL f xs xs.length = tab xs.length f := tab_congr fun _i hi => if_pos hi
theorem mixL_succ (f : Nat → Int) (xs : List Int) (k : Nat) (hk : k < xs.length) : mixL f xs (k + 1) = (mixL f xs k).set k (f k) := by
  apply list_ext_getD 0 (by rw [List.length_set, mixL_len, mixL_len])
  intro i hi
  rw [mixL_len] at hi
  rw [getD_set, mixL_len]
  unfold mixL
  rw [tab_getD hi, tab_getD hi]
  by_cases h : k = i
  · subst h; rw [if_pos (by omega), if_pos ⟨rfl, hk⟩]
  · rw [if_neg (c := k = i ∧ _) (fun hh => h hh.1)]
    by_cases h2 : i < k
    · rw [if_pos (by omega), if_pos h2]
    · rw [if_neg (by omega), if_neg h2]
theorem mixL_skip (f : Nat → Int) (xs : List Int) (k : Nat) (hf : f k = xs.getD k 0) : mixL f xs (k + 1) = mixL f xs k := by
  refine tab_congr fun i _ => ?_
  by_cases h : i < k
  · rw [if_pos (by omega), if_pos h]
  · by_cases h2 : i = k
    · subst h2; rw [if_pos (by omega), if_neg (by omega), hf]
    · rw [if_neg (by omega), if_neg h]

set_option maxHeartbeats 1600000 in
theorem signed_any (f : FuncId) (t : Nat → Bool) (hf : ∀ (k : Nat) (w : World), k ≤ 6 → Calls Tryz.prog f #[.int .i64 k] w fun e w' => e = .returned (.bool (t k)) ∧ w = w') (hcf : ∀ (args : Array Value) (w : World), (callFunc f args).run Tryz.prog w = .ok (.enter f args) w)
    (P : Int) (A : Option Addr) (n c : Nat) (X : Option Addr) (m cx : Nat) (xs : List Int) (w : World) (hp : 2 ≤ P) (hp2 : P ≤ 13) (hm : m ≤ 64) (hx : Rd w X m (ints xs)) (hxs : NumsL P xs) :
    Calls Tryz.prog 137 #[.agg #[.int .i64 P, .slice A n c], .slice X m cx, .func (.func f) #[] #[]] w fun e w' => ∃ A' c', e = .returned (.slice A' m c') ∧ MkI w w' A' m c' (sgnL P t xs) := by
  have hxl : xs.length = m := by have := hx.1; rwa [ints_length] at this
  have hB0 : Below w.heap.size w (w.alloc (.cells #[.int .i64 P, .slice A n c] 28)) := (Below.refl _ w).alloc (Nat.le_refl _) _
  have k0 : Blk (w.alloc (.cells #[.int .i64 P, .slice A n c] 28)) w.heap.size 28 #[.int .i64 P, .slice A n c] := Blk.new _ _ _
  have HX := Lib.hid hxl; clear hxl
  go_enter Tryz.func137, Tryz.ntmps137
  go_wp2_with fail
  refine (clone_any _ _ _ _ _ (by omega) (hx.below hB0)).mono ?_
  rintro e w1 ⟨A', c', rfl, hM1⟩
  have k1 := k0.below hM1.b k0.lt
  have hM := hM1.after hB0
  have hl0 : MkI w w1 A' m c' (mixL (fun i => if t (pc i) then (-(xs.getD i 0)) % P else xs.getD i 0) xs 0) := by rw [mixL_zero]; exact hM
  clear k0 hM1 hM hB0
  go_wp2_with fail
  go_loopw [8, 9, 14] (fun _ _ i wr => ∃ k : Nat, k ≤ m ∧ i = .int .i64 k ∧ MkI w wr A' m c' (mixL (fun i => if t (pc i) then (-(xs.getD i 0)) % P else xs.getD i 0) xs k) ∧ Blk wr w.heap.size 28 #[.int .i64 P, .slice A n c]) (fun _ _ i _ => m - (intOf i).toNat)
  case atStart => exact ⟨0, by omega, rfl, hl0, k1⟩
  case round =>
    obtain ⟨k, hk, rfl, hM, hk2⟩ := hrel
    clear hl0 k1
    by_cases hlt : k < m
    · obtain ⟨gx, ox, rfl, hxk, hcx⟩ := (hx.below hM.b).int hlt
      obtain ⟨x1, x2⟩ := hxs _ (List.getElem_mem hxk)
      have hpk := pc_le 6 k (by omega)
      rcases hM.2.form with ⟨_, h0⟩ | ⟨g, rfl, hg, hgl⟩
      · omega
      have HNE : Hid (g ≠ w.heap.size) := Lib.hid (fun e => by
        have hne := hM.2.ne_blk hk2 (by decide)
        simp [Value.ownBlock, e] at hne)
      cases ht : t (pc k)
      · have HM := Lib.hid (mixL_skip (fun i => if t (pc i) then (-(xs.getD i 0)) % P else xs.getD i 0) xs k (by simp [ht]) ▸ hM)
        have HT := Lib.hid ht
        clear hM ht
        go_wp2_with (go_at_call 146; refine (gradeOf_any k _ (by omega)).mono ?_; rintro e w' ⟨rfl, rfl⟩)
        refine (hf (pc k) _ hpk).mono ?_
        rintro e w' ⟨rfl, rfl⟩
        rw [HT.out]
        go_wp2
        go_roundw
        case rel => exact ⟨k + 1, by omega, by go_num, HM.out, hk2⟩
        case measure => simp [intOf]; omega
      · have hset := (hM.set k (.int .i64 ((-xs[k]) % P))).1
        have hfk : (if t (pc k) = true then (-(xs.getD k 0)) % P else xs.getD k 0) = (-xs[k]) % P := by rw [if_pos ht, getD_of_lt 0 hxk]
        rw [ints_set] at hset
        have HS : Hid (MkI w (wr.setCell ⟨g, k, none⟩ (.int .i64 ((-xs[k]) % P))) (some ⟨g, 0, none⟩) m c' (mixL (fun i => if t (pc i) then (-(xs.getD i 0)) % P else xs.getD i 0) xs (k + 1))) := Lib.hid (by rw [mixL_succ _ _ _ (by rw [HX.out]; exact hlt), hfk]; exact hset)
        have hAt : Hid (∀ w', MkI w w' (some ⟨g, 0, none⟩) m c' (mixL (fun i => if t (pc i) then (-(xs.getD i 0)) % P else xs.getD i 0) xs k) → w'.cell? ⟨g, k, none⟩ = some (.int .i64 ((mixL (fun i => if t (pc i) then (-(xs.getD i 0)) % P else xs.getD i 0) xs k).getD k 0)) ∧ w'.frozen? ⟨g, k, none⟩ = false) :=
          Lib.hid (fun w' h => mkI_at h hlt)
        have HT := Lib.hid ht
        have HM := Lib.hid hM
        clear hset hfk ht hM
        go_wp2_with (go_at_call 146; refine (gradeOf_any k _ (by omega)).mono ?_; rintro e w' ⟨rfl, rfl⟩)
        refine (hf (pc k) _ hpk).mono ?_
        rintro e w' ⟨rfl, rfl⟩
        rw [HT.out]
        obtain ⟨q0, q1⟩ := hk2.two
        go_wp2_with fail
        refine (field_any _ _ _ _ _).mono ?_
        rintro e w2 ⟨rfl, hb2⟩
        have hM2 := HM.out.below hb2
        have hk3 := hk2.below hb2 hk2.lt
        obtain ⟨hoc, hof⟩ := hAt.out _ hM2
        obtain ⟨v0, hv0⟩ : ∃ v, v = (mixL (fun i => if t (pc i) then (-(xs.getD i 0)) % P else xs.getD i 0) xs k).getD k 0 := ⟨_, rfl⟩
        rw [← hv0] at hoc
        have hset := (hM2.set k (.int .i64 ((-xs[k]) % P))).1
        have hfk : (if t (pc k) = true then (-(xs.getD k 0)) % P else xs.getD k 0) = (-xs[k]) % P := by rw [if_pos HT.out, getD_of_lt 0 hxk]
        rw [ints_set] at hset
        have HS2 : Hid (MkI w (w2.setCell ⟨g, k, none⟩ (.int .i64 ((-xs[k]) % P))) (some ⟨g, 0, none⟩) m c' (mixL (fun i => if t (pc i) then (-(xs.getD i 0)) % P else xs.getD i 0) xs (k + 1))) := Lib.hid (by rw [mixL_succ _ _ _ (by rw [HX.out]; exact hlt), hfk]; exact hset)
        have HKN := Lib.hid (hk3.far (p := ⟨g, k, none⟩) HNE.out.symm (.int .i64 ((-xs[k]) % P)))
        clear hv0 HS HM hM2 hk3 hk2 q0 q1 hset hfk
        go_wp2_with (go_at_call 119; refine (num_any _ (-xs[k]) _ (by omega) hp2 (by omega) (by omega)).mono ?_; rintro e w' ⟨rfl, rfl⟩)
        go_roundw
        case rel => exact ⟨k + 1, by omega, by go_num, HS2.out, HKN.out⟩
        case measure => simp [intOf]; omega
    · obtain rfl : k = m := by omega
      have hM2 := hM
      rw [← HX.out, mixL_all, HX.out] at hM2
      go_wp2
      go_ret
      exact ⟨_, _, rfl, by unfold sgnL; rw [HX.out]; exact hM2⟩

def revT (k : Nat) : Bool := k * (k - 1) / 2 % 2 == 1
def oddT (k : Nat) : Bool := k % 2 == 1

theorem rev_bool (k : Nat) (hk : k ≤ 1000) : ((k : Int) * ((k : Int) - 1) / 2 % 2 == 1) = revT k := by
  unfold revT
  rw [Bool.eq_iff_iff]
  simp only [beq_iff_eq]
  rcases Nat.eq_zero_or_pos k with h | h
  · subst h; simp
  · have e : (k : Int) * ((k : Int) - 1) = ((k * (k - 1) : Nat) : Int) := by rw [Int.natCast_mul]; congr 1; omega
    rw [e]; omega
set_option maxHeartbeats 400000 in
theorem reverse1_tells (k : Nat) (w : World) (hk : k ≤ 6) : Calls Tryz.prog 150 #[.int .i64 k] w fun e w' => e = .returned (.bool (revT k)) ∧ w = w' := by
  have hm : 0 ≤ (k : Int) * ((k : Int) - 1) ∧ (k : Int) * ((k : Int) - 1) ≤ 1000000 := by
    rcases Nat.eq_zero_or_pos k with h | h
    · subst h; simp
    · have := mul_small (show (0 : Int) ≤ k by omega) (show (k : Int) ≤ 1000 by omega) (show (0 : Int) ≤ (k : Int) - 1 by omega) (show (k : Int) - 1 ≤ 1000 by omega)
      omega
  obtain ⟨m1, m2⟩ := hm
  go_enter Tryz.func150, Tryz.ntmps150
  go_wp2
  go_ret
  exact ⟨ret_bool (rev_bool k (by omega)), rfl⟩
set_option maxHeartbeats 400000 in
theorem involute1_tells (k : Nat) (w : World) (hk : k ≤ 6) : Calls Tryz.prog 138 #[.int .i64 k] w fun e w' => e = .returned (.bool (oddT k)) ∧ w = w' := by
  go_enter Tryz.func138, Tryz.ntmps138
  go_wp2
  go_ret
  refine ⟨ret_bool ?_, rfl⟩
  unfold oddT
  rw [Bool.eq_iff_iff]
  simp only [beq_iff_eq]
  omega
def revL (p : Int) (xs : List Int) : List Int := sgnL p revT xs
def invoL (p : Int) (xs : List Int) : List Int := sgnL p oddT xs

set_option maxRecDepth 8000 in
set_option maxHeartbeats 400000 in
theorem reverse_any (P : Int) (A : Option Addr) (n c : Nat) (X : Option Addr) (m cx : Nat) (xs : List Int) (w : World) (hp : 2 ≤ P) (hp2 : P ≤ 13) (hm : m ≤ 64) (hx : Rd w X m (ints xs)) (hxs : NumsL P xs) :
    Calls Tryz.prog 101 #[.agg #[.int .i64 P, .slice A n c], .slice X m cx] w fun e w' => ∃ A' c', e = .returned (.slice A' m c') ∧ MkI w w' A' m c' (revL P xs) := by
  have hB0 : Below w.heap.size w (w.alloc (.cells #[.int .i64 P, .slice A n c] 28)) := (Below.refl _ w).alloc (Nat.le_refl _) _
  have hcall := signed_any 150 revT reverse1_tells (fun _ _ => rfl) P A n c X m cx xs _ hp hp2 hm (hx.below hB0) hxs
  go_enter Tryz.func101, Tryz.ntmps101
  go_wp2_with (go_at_call 137; refine hcall.mono ?_; rintro e w1 ⟨A', c', rfl, hM⟩)
  go_ret
  exact ⟨_, _, rfl, hM.after hB0⟩
set_option maxRecDepth 8000 in
set_option maxHeartbeats 400000 in
theorem involute_any (P : Int) (A : Option Addr) (n c : Nat) (X : Option Addr) (m cx : Nat) (xs : List Int) (w : World) (hp : 2 ≤ P) (hp2 : P ≤ 13) (hm : m ≤ 64) (hx : Rd w X m (ints xs)) (hxs : NumsL P xs) :
    Calls Tryz.prog 79 #[.agg #[.int .i64 P, .slice A n c], .slice X m cx] w fun e w' => ∃ A' c', e = .returned (.slice A' m c') ∧ MkI w w' A' m c' (invoL P xs) := by
  have hB0 : Below w.heap.size w (w.alloc (.cells #[.int .i64 P, .slice A n c] 28)) := (Below.refl _ w).alloc (Nat.le_refl _) _
  have hcall := signed_any 138 oddT involute1_tells (fun _ _ => rfl) P A n c X m cx xs _ hp hp2 hm (hx.below hB0) hxs
  go_enter Tryz.func79, Tryz.ntmps79
  go_wp2_with (go_at_call 137; refine hcall.mono ?_; rintro e w1 ⟨A', c', rfl, hM⟩)
  go_ret
  exact ⟨_, _, rfl, hM.after hB0⟩

end Go.Proofs.YtgfgnpdnppggeaaGreat

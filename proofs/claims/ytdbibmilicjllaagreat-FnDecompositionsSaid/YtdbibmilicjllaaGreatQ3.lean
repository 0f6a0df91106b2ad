/-
  LawFnDecompositions: part 3 of the texts that the proof needs. No condition.
-/
import Derived.Test.YtdbibmilicjllaaGreatQ2
namespace Go.Proofs.YtdbibmilicjllaaGreat
open Go.RowKit
set_option maxRecDepth 8000 in
set_option maxHeartbeats 400000 in
set_option maxRecDepth 8000 in
theorem clone_any (A : Option Addr) (n c : Nat) (xs : List Int) (w : World) (hn : n ≤ 65536) (ha : Rd w A n (ints xs)) :
    Calls Tryz.prog 346 #[.slice A n c] w fun e w' => ∃ A' c', e = .returned (.slice A' n c') ∧ MkI w w' A' n c' xs := by
  have hxl : xs.length = n := by have := ha.1; rwa [ints_length] at this
  cases A with
  | none =>
    have h0 : n = 0 := by
      rcases Nat.eq_zero_or_pos n with h | h
      · exact h
      · obtain ⟨g, o, e, _⟩ := ha.2 h; cases e
    subst h0
    have hxs : xs = [] := List.eq_nil_of_length_eq_zero hxl
    subst hxs
    clear ha hxl hn
    have hq := fun w : World => Lib.run_eql_slice_nil (P := Tryz.prog) w 24 2 none 0 c 0 0 Tryz.underlying24
    simp only [Option.isNone_none] at hq
    go_enter Tryz.func346, Tryz.ntmps346
    go_wp2
    go_ret
    exact ⟨none, 0, rfl, Mk.nil (Below.refl _ _)⟩
  | some p =>
    have hM0 := Mk.lit (E := 2) (Below.refl w.heap.size w) #[] (by simp)
    obtain ⟨i, hi, h1, h2, h3⟩ := info_parts info_i
    obtain ⟨b1, b2⟩ := bound_of (Nat.le_trans hn (by decide))
    clear b1
    have HB := Lib.hid b2
    clear b2
    have hnews : ∀ (j : Nat) (u : Value), (ints xs)[j]? = some u → (w.alloc (.cells #[] 2)).cell? (p.add j) = some u := fun j u hu => by
      have hj : j < n := by have := (List.getElem?_eq_some_iff.1 hu).1; rw [ints_length] at this; omega
      obtain ⟨g, o, e, hc⟩ := (ha.below ((Below.refl _ w).alloc (Nat.le_refl _) (.cells #[] 2))).2 (by omega)
      injection e with e; subst e
      rw [Addr.add_lit]
      exact hc j u hu
    have Hx := Lib.hid hxl
    have HN := Lib.hid hnews
    have HI := Lib.hid hi
    have H1 := Lib.hid h1
    have H2 := Lib.hid h2
    have H3 := Lib.hid h3
    clear hnews hi h1 h2 h3 hxl
    have hq := fun w : World => Lib.run_eql_slice_nil (P := Tryz.prog) w 24 2 (some p) n c 0 0 Tryz.underlying24
    simp only [Option.isNone_some] at hq
    go_enter Tryz.func346, Tryz.ntmps346
    go_wp2_with (at_builtin; refine wpList_append_own_at (w.alloc (.cells #[] 2)) rfl _ _ 24 rfl w.heap.size 2 i _ 1 8 Tryz.underlying24 HI.out H1.out H2.out H3.out rfl (by omega) (.slice (some ⟨w.heap.size, 0, none⟩) 0 0) 0 [] rfl hM0.2 p n c (ints xs) rfl (by rw [ints_length, Hx.out, Nat.mul_one]) HN.out (by intro u hu; obtain ⟨y, _, rfl⟩ := List.mem_map.1 hu; rfl) (by simp only [maxLen]; omega) (by have := HB.out 8 (by omega); omega) (by simp) ?_; intro v' w' hown hg _ _)
    have hb' : Below w.heap.size w w' := hM0.1.grown hg (by simp) (fun k hk => (hM0.2.lt k hk).1)
    rw [Nat.zero_add, List.nil_append] at hown
    rcases hown.2 with ⟨rfl, h0⟩ | ⟨g, cap, cur, rfl, hr⟩
    · subst h0
      go_ret
      exact ⟨none, 0, rfl, hb', hown⟩
    · go_ret
      exact ⟨_, _, rfl, hb', hown⟩
/-- The blades of the grades that t tells turned to their negatives. -/
def sgnL (p : Int) (t : Nat → Bool) (xs : List Int) : List Int := tab xs.length fun i => if t (pc i) then (-(xs.getD i 0)) % p else xs.getD i 0
theorem sgnL_len (p : Int) (t : Nat → Bool) (xs : List Int) : (sgnL p t xs).length = xs.length := tab_len _ _
theorem sgnL_nums {p : Int} (hp : 0 < p) (t : Nat → Bool) {xs : List Int} (h : NumsL p xs) : NumsL p (sgnL p t xs) := NumsL.tab fun i _ => by
  split
  · exact ⟨Int.emod_nonneg _ (by omega), Int.emod_lt_of_pos _ hp⟩
  · exact h.getD hp i
theorem sgnL_getD {p : Int} {t : Nat → Bool} {xs : List Int} {i : Nat} (h : i < xs.length) : (sgnL p t xs).getD i 0 = if t (pc i) then (-(xs.getD i 0)) % p else xs.getD i 0 := tab_getD h 0
/-- The first k places of f, then those of xs. -/
def mixL (f : Nat → Int) (xs : List Int) (k : Nat) : List Int := tab xs.length fun i => if i < k then f i else xs.getD i 0
theorem mixL_len (f : Nat → Int) (xs : List Int) (k : Nat) : (mixL f xs k).length = xs.length := tab_len _ _
theorem mixL_zero (f : Nat → Int) (xs : List Int) : mixL f xs 0 = xs := by
  refine Eq.trans (tab_congr fun i _ => ?_) (eq_tab 0 rfl).symm
  rw [if_neg (by omega)]
theorem mixL_all (f : Nat → Int) (xs : List Int) : mixL f xs xs.length = tab xs.length f := tab_congr fun _i hi => if_pos hi
theorem mixL_succ (f : Nat → Int) (xs : List Int) (k : Nat) (hk : k < xs.length) : mixL f xs (k + 1) = (mixL f xs k).set k (f k) := by
  apply list_ext_getD 0 (by rw [List.length_set, mixL_len, mixL_len])
  intro i hi
  rw [mixL_len] at hi
  rw [getD_set, mixL_len]
  unfold mixL
  rw [tab_getD hi, tab_getD hi]
  by_cases h : k = i
  · subst h; rw [if_pos (by omega), if_pos ⟨rfl, hk⟩]
  · rw [if_neg (c := k = i ∧ _) (fun hh => h hh.1)]
    by_cases h2 : i < k
    · rw [if_pos (by omega), if_pos h2]
    · rw [if_neg (by omega), if_neg h2]
theorem mixL_skip (f : Nat → Int) (xs : List Int) (k : Nat) (hf : f k = xs.getD k 0) : mixL f xs (k + 1) = mixL f xs k := by
  refine tab_congr fun i _ => ?_
  by_cases h : i < k
  · rw [if_pos (by omega), if_pos h]
  · by_cases h2 : i = k
    · subst h2; rw [if_pos (by omega), if_neg (by omega), hf]
    · rw [if_neg (by omega), if_neg h]
set_option maxHeartbeats 1600000 in
set_option maxRecDepth 8000 in
theorem signed_any (f : FuncId) (t : Nat → Bool) (hf : ∀ (k : Nat) (w : World), k ≤ 6 → Calls Tryz.prog f #[.int .i64 k] w fun e w' => e = .returned (.bool (t k)) ∧ w = w') (hcf : ∀ (args : Array Value) (w : World), (callFunc f args).run Tryz.prog w = .ok (.enter f args) w)
    (P : Int) (A : Option Addr) (n c : Nat) (X : Option Addr) (m cx : Nat) (xs : List Int) (w : World) (hp : 2 ≤ P) (hp2 : P ≤ 13) (hm : m ≤ 64) (hx : Rd w X m (ints xs)) (hxs : NumsL P xs) :
    Calls Tryz.prog 359 #[.agg #[.int .i64 P, .slice A n c], .slice X m cx, .func (.func f) #[] #[]] w fun e w' => ∃ A' c', e = .returned (.slice A' m c') ∧ MkI w w' A' m c' (sgnL P t xs) := by
  have hxl : xs.length = m := by have := hx.1; rwa [ints_length] at this
  have hB0 : Below w.heap.size w (w.alloc (.cells #[.int .i64 P, .slice A n c] 26)) := (Below.refl _ w).alloc (Nat.le_refl _) _
  have k0 : Blk (w.alloc (.cells #[.int .i64 P, .slice A n c] 26)) w.heap.size 26 #[.int .i64 P, .slice A n c] := Blk.new _ _ _
  have HX := Lib.hid hxl; clear hxl
  go_enter Tryz.func359, Tryz.ntmps359
  go_wp2_with fail
  refine (clone_any _ _ _ _ _ (by omega) (hx.below hB0)).mono ?_
  rintro e w1 ⟨A', c', rfl, hM1⟩
  have k1 := k0.below hM1.b k0.lt
  have hM := hM1.after hB0
  have hl0 : MkI w w1 A' m c' (mixL (fun i => if t (pc i) then (-(xs.getD i 0)) % P else xs.getD i 0) xs 0) := by rw [mixL_zero]; exact hM
  clear k0 hM1 hM hB0
  go_wp2_with fail
  go_loopw [8, 9, 14] (fun _ _ i wr => ∃ k : Nat, k ≤ m ∧ i = .int .i64 k ∧ MkI w wr A' m c' (mixL (fun i => if t (pc i) then (-(xs.getD i 0)) % P else xs.getD i 0) xs k) ∧ Blk wr w.heap.size 26 #[.int .i64 P, .slice A n c]) (fun _ _ i _ => m - (intOf i).toNat)
  case atStart => exact ⟨0, by omega, rfl, hl0, k1⟩
  case round =>
    obtain ⟨k, hk, rfl, hM, hk2⟩ := hrel
    clear hl0 k1
    by_cases hlt : k < m
    · obtain ⟨gx, ox, rfl, hxk, hcx⟩ := (hx.below hM.b).int hlt
      obtain ⟨x1, x2⟩ := hxs _ (List.getElem_mem hxk)
      have hpk := pc_le 6 k (by omega)
      rcases hM.2.form with ⟨_, h0⟩ | ⟨g, rfl, hg, hgl⟩
      · omega
      have HNE : Hid (g ≠ w.heap.size) := Lib.hid (fun e => by
        have hne := hM.2.ne_blk hk2 (by decide)
        simp [Value.ownBlock, e] at hne)
      cases ht : t (pc k)
      · have HM := Lib.hid (mixL_skip (fun i => if t (pc i) then (-(xs.getD i 0)) % P else xs.getD i 0) xs k (by simp [ht]) ▸ hM)
        have HT := Lib.hid ht
        clear hM ht
        go_wp2_with (go_at_call 366; refine (gradeOf_any k _ (by omega)).mono ?_; rintro e w' ⟨rfl, rfl⟩)
        refine (hf (pc k) _ hpk).mono ?_
        rintro e w' ⟨rfl, rfl⟩
        rw [HT.out]
        go_wp2
        go_roundw
        case rel => exact ⟨k + 1, by omega, by go_num, HM.out, hk2⟩
        case measure => simp [intOf]; omega
      · have hset := (hM.set k (.int .i64 ((-xs[k]) % P))).1
        have hfk : (if t (pc k) = true then (-(xs.getD k 0)) % P else xs.getD k 0) = (-xs[k]) % P := by rw [if_pos ht, getD_of_lt 0 hxk]
        rw [ints_set] at hset
        have HS : Hid (MkI w (wr.setCell ⟨g, k, none⟩ (.int .i64 ((-xs[k]) % P))) (some ⟨g, 0, none⟩) m c' (mixL (fun i => if t (pc i) then (-(xs.getD i 0)) % P else xs.getD i 0) xs (k + 1))) := Lib.hid (by rw [mixL_succ _ _ _ (by rw [HX.out]; exact hlt), hfk]; exact hset)
        have hAt : Hid (∀ w', MkI w w' (some ⟨g, 0, none⟩) m c' (mixL (fun i => if t (pc i) then (-(xs.getD i 0)) % P else xs.getD i 0) xs k) → w'.cell? ⟨g, k, none⟩ = some (.int .i64 ((mixL (fun i => if t (pc i) then (-(xs.getD i 0)) % P else xs.getD i 0) xs k).getD k 0)) ∧ w'.frozen? ⟨g, k, none⟩ = false) :=
          Lib.hid (fun w' h => mkI_at h hlt)
        have HT := Lib.hid ht
        have HM := Lib.hid hM
        clear hset hfk ht hM
        go_wp2_with (go_at_call 366; refine (gradeOf_any k _ (by omega)).mono ?_; rintro e w' ⟨rfl, rfl⟩)
        refine (hf (pc k) _ hpk).mono ?_
        rintro e w' ⟨rfl, rfl⟩
        rw [HT.out]
        obtain ⟨q0, q1⟩ := hk2.two
        go_wp2_with fail
        refine (field_any _ _ _ _ _).mono ?_
        rintro e w2 ⟨rfl, hb2⟩
        have hM2 := HM.out.below hb2
        have hk3 := hk2.below hb2 hk2.lt
        obtain ⟨hoc, hof⟩ := hAt.out _ hM2
        obtain ⟨v0, hv0⟩ : ∃ v, v = (mixL (fun i => if t (pc i) then (-(xs.getD i 0)) % P else xs.getD i 0) xs k).getD k 0 := ⟨_, rfl⟩
        rw [← hv0] at hoc
        have hset := (hM2.set k (.int .i64 ((-xs[k]) % P))).1
        have hfk : (if t (pc k) = true then (-(xs.getD k 0)) % P else xs.getD k 0) = (-xs[k]) % P := by rw [if_pos HT.out, getD_of_lt 0 hxk]
        rw [ints_set] at hset
        have HS2 : Hid (MkI w (w2.setCell ⟨g, k, none⟩ (.int .i64 ((-xs[k]) % P))) (some ⟨g, 0, none⟩) m c' (mixL (fun i => if t (pc i) then (-(xs.getD i 0)) % P else xs.getD i 0) xs (k + 1))) := Lib.hid (by rw [mixL_succ _ _ _ (by rw [HX.out]; exact hlt), hfk]; exact hset)
        have HKN := Lib.hid (hk3.far (p := ⟨g, k, none⟩) HNE.out.symm (.int .i64 ((-xs[k]) % P)))
        clear hv0 HS HM hM2 hk3 hk2 q0 q1 hset hfk
        go_wp2_with (go_at_call 164; refine (num_any _ (-xs[k]) _ (by omega) hp2 (by omega) (by omega)).mono ?_; rintro e w' ⟨rfl, rfl⟩)
        go_roundw
        case rel => exact ⟨k + 1, by omega, by go_num, HS2.out, HKN.out⟩
        case measure => simp [intOf]; omega
    · obtain rfl : k = m := by omega
      have hM2 := hM
      rw [← HX.out, mixL_all, HX.out] at hM2
      go_wp2
      go_ret
      exact ⟨_, _, rfl, by unfold sgnL; rw [HX.out]; exact hM2⟩
def revT (k : Nat) : Bool := k * (k - 1) / 2 % 2 == 1
def oddT (k : Nat) : Bool := k % 2 == 1
theorem rev_bool (k : Nat) (hk : k ≤ 1000) : ((k : Int) * ((k : Int) - 1) / 2 % 2 == 1) = revT k := by
  unfold revT
  rw [Bool.eq_iff_iff]
  simp only [beq_iff_eq]
  rcases Nat.eq_zero_or_pos k with h | h
  · subst h; simp
  · have e : (k : Int) * ((k : Int) - 1) = ((k * (k - 1) : Nat) : Int) := by rw [Int.natCast_mul]; congr 1; omega
    rw [e]; omega
set_option maxHeartbeats 400000 in
set_option maxRecDepth 8000 in
theorem reverse1_tells (k : Nat) (w : World) (hk : k ≤ 6) : Calls Tryz.prog 360 #[.int .i64 k] w fun e w' => e = .returned (.bool (revT k)) ∧ w = w' := by
  have hm : 0 ≤ (k : Int) * ((k : Int) - 1) ∧ (k : Int) * ((k : Int) - 1) ≤ 1000000 := by
    rcases Nat.eq_zero_or_pos k with h | h
    · subst h; simp
    · have := mul_small (show (0 : Int) ≤ k by omega) (show (k : Int) ≤ 1000 by omega) (show (0 : Int) ≤ (k : Int) - 1 by omega) (show (k : Int) - 1 ≤ 1000 by omega)
      omega
  obtain ⟨m1, m2⟩ := hm
  go_enter Tryz.func360, Tryz.ntmps360
  go_wp2
  go_ret
  exact ⟨ret_bool (rev_bool k (by omega)), rfl⟩
set_option maxHeartbeats 400000 in
set_option maxRecDepth 8000 in
theorem involute1_tells (k : Nat) (w : World) (hk : k ≤ 6) : Calls Tryz.prog 361 #[.int .i64 k] w fun e w' => e = .returned (.bool (oddT k)) ∧ w = w' := by
  go_enter Tryz.func361, Tryz.ntmps361
  go_wp2
  go_ret
  refine ⟨ret_bool ?_, rfl⟩
  unfold oddT
  rw [Bool.eq_iff_iff]
  simp only [beq_iff_eq]
  omega
def revL (p : Int) (xs : List Int) : List Int := sgnL p revT xs
def invoL (p : Int) (xs : List Int) : List Int := sgnL p oddT xs
set_option maxRecDepth 8000 in
set_option maxHeartbeats 400000 in
set_option maxRecDepth 8000 in
theorem reverse_any (P : Int) (A : Option Addr) (n c : Nat) (X : Option Addr) (m cx : Nat) (xs : List Int) (w : World) (hp : 2 ≤ P) (hp2 : P ≤ 13) (hm : m ≤ 64) (hx : Rd w X m (ints xs)) (hxs : NumsL P xs) :
    Calls Tryz.prog 197 #[.agg #[.int .i64 P, .slice A n c], .slice X m cx] w fun e w' => ∃ A' c', e = .returned (.slice A' m c') ∧ MkI w w' A' m c' (revL P xs) := by
  have hB0 : Below w.heap.size w (w.alloc (.cells #[.int .i64 P, .slice A n c] 26)) := (Below.refl _ w).alloc (Nat.le_refl _) _
  have hcall := signed_any 360 revT reverse1_tells (fun _ _ => rfl) P A n c X m cx xs _ hp hp2 hm (hx.below hB0) hxs
  go_enter Tryz.func197, Tryz.ntmps197
  go_wp2_with (go_at_call 359; refine hcall.mono ?_; rintro e w1 ⟨A', c', rfl, hM⟩)
  go_ret
  exact ⟨_, _, rfl, hM.after hB0⟩
set_option maxRecDepth 8000 in
set_option maxHeartbeats 400000 in
set_option maxRecDepth 8000 in
theorem involute_any (P : Int) (A : Option Addr) (n c : Nat) (X : Option Addr) (m cx : Nat) (xs : List Int) (w : World) (hp : 2 ≤ P) (hp2 : P ≤ 13) (hm : m ≤ 64) (hx : Rd w X m (ints xs)) (hxs : NumsL P xs) :
    Calls Tryz.prog 198 #[.agg #[.int .i64 P, .slice A n c], .slice X m cx] w fun e w' => ∃ A' c', e = .returned (.slice A' m c') ∧ MkI w w' A' m c' (invoL P xs) := by
  have hB0 : Below w.heap.size w (w.alloc (.cells #[.int .i64 P, .slice A n c] 26)) := (Below.refl _ w).alloc (Nat.le_refl _) _
  have hcall := signed_any 361 oddT involute1_tells (fun _ _ => rfl) P A n c X m cx xs _ hp hp2 hm (hx.below hB0) hxs
  go_enter Tryz.func198, Tryz.ntmps198
  go_wp2_with (go_at_call 359; refine hcall.mono ?_; rintro e w1 ⟨A', c', rfl, hM⟩)
  go_ret
  exact ⟨_, _, rfl, hM.after hB0⟩
end Go.Proofs.YtdbibmilicjllaaGreat
namespace Go.Proofs.YtdbibmilicjllaaGreat
open Go.RowKit
/-- The spinor norm. -/
def nrmL (P : Int) (sq xs : List Int) : Int := (mulL P sq xs (revL P xs)).getD 0 0
theorem nrmL_small {P : Int} (hp : 2 ≤ P) (sq xs : List Int) : 0 ≤ nrmL P sq xs ∧ nrmL P sq xs < P := (mulL_nums (by omega) sq xs _).getD (by omega) 0
/-- The inverse of a versor. -/
def vinvL (P : Int) (sq xs : List Int) : List Int := scaleL P (revL P xs) (invF P (nrmL P sq xs))
theorem vinvL_nums {P : Int} (hp : 2 ≤ P) (sq xs : List Int) : NumsL P (vinvL P sq xs) := scaleL_nums (by omega) _ _
/-- The sandwich of a versor. -/
def sandL (P : Int) (sq : List Int) (n : Nat) (xs v : List Int) : List Int := partL n (mulL P sq (mulL P sq (invoL P xs) (vecTo n v n)) (vinvL P sq xs))
theorem sandL_nums {P : Int} (hp : 2 ≤ P) (sq : List Int) (n : Nat) (xs v : List Int) : NumsL P (sandL P sq n xs v) := partL_nums (by omega) n _ (mulL_nums (by omega) sq _ _)
set_option maxHeartbeats 1600000 in
set_option maxRecDepth 8000 in
theorem spinorNorm_any (P : Int) (A : Option Addr) (n c : Nat) (sq : List Int) (X : Option Addr) (cx : Nat) (xs : List Int) (w : World) (hp : 2 ≤ P) (hp2 : P ≤ 13) (hn : n ≤ 6) (ha : Rd w A n (ints sq)) (hs : NumsL P sq) (hx : Rd w X (pw n) (ints xs)) (hxs : NumsL P xs) (hcx : pw n ≤ cx) :
    Calls Tryz.prog 167 #[.agg #[.int .i64 P, .slice A n c], .slice X (pw n) cx] w fun e w' => e = .returned (.int .i64 (nrmL P sq xs)) ∧ Below w.heap.size w w' := by
  have hB0 : Below w.heap.size w (w.alloc (.cells #[.int .i64 P, .slice A n c] 26)) := (Below.refl _ _).alloc (Nat.le_refl _) _
  have k0 : Blk (w.alloc (.cells #[.int .i64 P, .slice A n c] 26)) w.heap.size 26 #[.int .i64 P, .slice A n c] := Blk.new _ _ _
  have HPW : pw n ≤ 65536 := Nat.le_trans (pw_le (show n ≤ 10 by omega)) (by decide)
  have HPW64 : pw n ≤ 64 := pw_le hn
  go_enter Tryz.func167, Tryz.ntmps167
  go_wp2
  refine wp_obs 10 [[], [], [], [], [2, 3], [1, 2, 3, 4], [0, 1, 2, 3, 4, 5], [0, 1, 2, 3, 4, 5, 6], [0, 1, 2, 3, 4, 5, 6, 7], [0, 1, 2, 3, 4, 5, 6, 7, 8]] [VIs (.agg #[.int .i64 P, .slice A n c]), VIs (.slice X (pw n) cx), VIs (.agg #[.int .i64 P, .slice A n c]), VIs (.slice X (pw n) cx), VSl w (pw n) (revL P xs), VRow 2 [xs, (revL P xs)], VSl w (pw n) (timesL P sq n [xs, (revL P xs)]), VCell (.int .i64 ((timesL P sq n [xs, (revL P xs)]).getD 0 0)), VIs (.int .i64 ((timesL P sq n [xs, (revL P xs)]).getD 0 0)), VIs (.int .i64 ((timesL P sq n [xs, (revL P xs)]).getD 0 0))] (fun w' => Blk w' w.heap.size 26 #[.int .i64 P, .slice A n c] ∧ Below w.heap.size w w') (by kernel_rfl) (by kernel_rfl) (fun _ _ h hb => ⟨h.1.below hb h.1.lt, h.2.trans (hb.mono h.2.size)⟩) (⟨k0.drew, hB0.drew⟩) (fun x => ?_)
  refine obs_step (Eq.trans (by simp only [zA, zC]; exact rfl) rfl) rfl (fun w' hS hV K hK => ?_) ?_
  · obtain ⟨q0, q1⟩ := hS.1.two
    go_simp
    exact hK.out _ _ _ rfl rfl rfl (Below.refl _ _)
  simp only [zD, zE, zF]
  refine obs_step (Eq.trans (by simp only [zA, zB, zC]; exact rfl) rfl) rfl (fun w' hS hV K hK => ?_) ?_
  · obtain ⟨q0, q1⟩ := hS.1.two
    go_simp
    exact hK.out _ _ _ rfl rfl rfl (Below.refl _ _)
  simp only [zD, zE, zF]
  refine obs_step (Eq.trans (by simp only [zA, zB, zC]; exact rfl) rfl) rfl (fun w' hS hV K hK => ?_) ?_
  · obtain ⟨q0, q1⟩ := hS.1.two
    go_simp
    exact hK.out _ _ _ rfl rfl rfl (Below.refl _ _)
  simp only [zD, zE, zF]
  refine obs_step (Eq.trans (by simp only [zA, zB, zC]; exact rfl) rfl) rfl (fun w' hS hV K hK => ?_) ?_
  · obtain ⟨q0, q1⟩ := hS.1.two
    go_simp
    exact hK.out _ _ _ rfl rfl rfl (Below.refl _ _)
  simp only [zD, zE, zF]
  refine obs_step (Eq.trans (by simp only [zA, zB, zC]; exact rfl) rfl) rfl (fun w' hS hV K hK => ?_) ?_
  · simp only [List.mem_cons, List.not_mem_nil, or_false, forall_eq_or_imp, forall_eq, List.getD_cons_succ, List.getD_cons_zero, VIs, VSl, VRow, VAny, VCell] at hV
    obtain ⟨e2, e3⟩ := hV
    obtain ⟨q0, q1⟩ := hS.1.two
    go_simp
    refine (reverse_any P A n c _ (pw n) _ xs _ hp hp2 HPW64 (hx.below hS.2) hxs).mono ?_
    rintro e w1 ⟨A2, c2, rfl, hM⟩
    exact hK.out _ _ _ rfl rfl ⟨_, _, rfl, hM.after hS.2⟩ hM.b
  simp only [zD, zE, zF]
  refine obs_step (Eq.trans (by simp only [zA, zB, zC]; exact rfl) rfl) rfl (fun w' hS hV K hK => ?_) ?_
  · simp only [List.mem_cons, List.not_mem_nil, or_false, forall_eq_or_imp, forall_eq, List.getD_cons_succ, List.getD_cons_zero, VIs, VSl, VRow, VAny, VCell] at hV
    obtain ⟨e1, e2, e3, ⟨A4, c4, e4, h4⟩⟩ := hV
    obtain ⟨q0, q1⟩ := hS.1.two
    go_simp
    exact hK.out _ _ _ rfl rfl ⟨_, _, rfl, rdII_two (Blk.new _ _ _) (Rd.below ((hx.below hS.2)) ((Below.refl _ _).alloc (Nat.le_refl _) _)) (Rd.below (h4.rd) ((Below.refl _ _).alloc (Nat.le_refl _) _)) (hcx) (h4.2.cap)⟩ ((Below.refl _ _).alloc (Nat.le_refl _) _)
  simp only [zD, zE, zF]
  refine obs_step (Eq.trans (by simp only [zA, zB, zC]; exact rfl) rfl) rfl (fun w' hS hV K hK => ?_) ?_
  · simp only [List.mem_cons, List.not_mem_nil, or_false, forall_eq_or_imp, forall_eq, List.getD_cons_succ, List.getD_cons_zero, VIs, VSl, VRow, VAny, VCell] at hV
    obtain ⟨e0, e1, e2, e3, ⟨A4, c4, e4, h4⟩, ⟨A5, c5, e5, h5⟩⟩ := hV
    obtain ⟨q0, q1⟩ := hS.1.two
    go_simp
    refine (times_any P A n c sq _ 2 _ [xs, (revL P xs)] _ hp hp2 hn (by omega) (ha.below hS.2) hs h5 (all_two ⟨hxs, Rd.lenI ((hx.below hS.2))⟩ ⟨(sgnL_nums (by omega) revT hxs), Rd.lenI (h4.rd)⟩)).mono ?_
    rintro e w1 ⟨A2, c2, rfl, hM⟩
    exact hK.out _ _ _ rfl rfl ⟨_, _, rfl, hM.after hS.2⟩ hM.b
  simp only [zD, zE, zF]
  refine obs_step (Eq.trans (by simp only [zA, zB, zC]; exact rfl) rfl) rfl (fun w' hS hV K hK => ?_) ?_
  · simp only [List.mem_cons, List.not_mem_nil, or_false, forall_eq_or_imp, forall_eq, List.getD_cons_succ, List.getD_cons_zero, VIs, VSl, VRow, VAny, VCell] at hV
    obtain ⟨e0, e1, e2, e3, ⟨A4, c4, e4, h4⟩, ⟨A5, c5, e5, h5⟩, ⟨A6, c6, e6, h6⟩⟩ := hV
    obtain ⟨q0, q1⟩ := hS.1.two
    rcases h6.2.form with ⟨_, hz⟩ | ⟨g6, hg6, _, _⟩
    · exact absurd hz (by have := pw_pos n; omega)
    subst hg6
    obtain ⟨hcell, _⟩ := mkI_at h6 (pw_pos n)
    have hposI : 0 < pw n := pw_pos n
    go_simp
    exact hK.out _ _ _ rfl rfl ⟨_, rfl, hcell⟩ (Below.refl _ _)
  simp only [zD, zE, zF]
  refine obs_step (Eq.trans (by simp only [zA, zB, zC]; exact rfl) rfl) rfl (fun w' hS hV K hK => ?_) ?_
  · simp only [List.mem_cons, List.not_mem_nil, or_false, forall_eq_or_imp, forall_eq, List.getD_cons_succ, List.getD_cons_zero, VIs, VSl, VRow, VAny, VCell] at hV
    obtain ⟨e0, e1, e2, e3, ⟨A4, c4, e4, h4⟩, ⟨A5, c5, e5, h5⟩, ⟨A6, c6, e6, h6⟩, ⟨p7, e7, h7⟩⟩ := hV
    obtain ⟨q0, q1⟩ := hS.1.two
    go_simp
    exact hK.out _ _ _ rfl rfl rfl (Below.refl _ _)
  simp only [zD, zE, zF]
  refine obs_step (Eq.trans (by simp only [zA, zB, zC]; exact rfl) rfl) rfl (fun w' hS hV K hK => ?_) ?_
  · simp only [List.mem_cons, List.not_mem_nil, or_false, forall_eq_or_imp, forall_eq, List.getD_cons_succ, List.getD_cons_zero, VIs, VSl, VRow, VAny, VCell] at hV
    obtain ⟨e0, e1, e2, e3, ⟨A4, c4, e4, h4⟩, ⟨A5, c5, e5, h5⟩, ⟨A6, c6, e6, h6⟩, ⟨p7, e7, h7⟩, e8⟩ := hV
    obtain ⟨q0, q1⟩ := hS.1.two
    go_simp
    exact hK.out _ _ _ rfl rfl rfl (Below.refl _ _)
  simp only [zD, zE, zF]
  refine fun w' hS hV => ?_
  have hV := fun i hi => hV i (List.mem_range.1 hi)
  simp only [List.range, List.range.loop, List.mem_cons, List.not_mem_nil, or_false, forall_eq_or_imp, forall_eq, List.getD_cons_succ, List.getD_cons_zero, VIs, VSl, VRow, VAny, VCell] at hV
  obtain ⟨e0, e1, e2, e3, ⟨A4, c4, e4, h4⟩, ⟨A5, c5, e5, h5⟩, ⟨A6, c6, e6, h6⟩, ⟨p7, e7, h7⟩, e8, e9⟩ := hV
  simp only [e0, e1, e2, e3, e4, e5, e6, e7, e8, e9]
  clear e0 e1 e2 e3 e4 e5 e6 e7 e8 e9
  refine wpAny_done (by kernel_rfl) ?_ _
  go_wp2
  go_ret
  exact ⟨ret_int (by unfold nrmL; rw [timesL_two P sq n _ _ hx.lenI hxs, List.getD_eq_getElem?_getD]), hS.2⟩
set_option maxHeartbeats 1600000 in
set_option maxRecDepth 8000 in
theorem versorInverse_any (P : Int) (A : Option Addr) (n c : Nat) (sq : List Int) (X : Option Addr) (cx : Nat) (xs : List Int) (w : World) (hp : 2 ≤ P) (hp2 : P ≤ 13) (hn : n ≤ 6) (ha : Rd w A n (ints sq)) (hs : NumsL P sq) (hx : Rd w X (pw n) (ints xs)) (hxs : NumsL P xs) (hcx : pw n ≤ cx) :
    Calls Tryz.prog 336 #[.agg #[.int .i64 P, .slice A n c], .slice X (pw n) cx] w fun e w' => ∃ A' c', e = .returned (.slice A' (pw n) c') ∧ MkI w w' A' (pw n) c' (vinvL P sq xs) := by
  have hB0 : Below w.heap.size w (w.alloc (.cells #[.int .i64 P, .slice A n c] 26)) := (Below.refl _ _).alloc (Nat.le_refl _) _
  have k0 : Blk (w.alloc (.cells #[.int .i64 P, .slice A n c] 26)) w.heap.size 26 #[.int .i64 P, .slice A n c] := Blk.new _ _ _
  have HPW : pw n ≤ 65536 := Nat.le_trans (pw_le (show n ≤ 10 by omega)) (by decide)
  have HPW64 : pw n ≤ 64 := pw_le hn
  go_enter Tryz.func336, Tryz.ntmps336
  go_wp2
  refine wp_obs 13 [[], [0], [], [], [2, 3], [], [5], [], [], [7, 8], [5, 6, 7, 8, 9], [0, 1, 2, 3, 4, 5, 6, 7, 8, 9, 10], [0, 1, 2, 3, 4, 5, 6, 7, 8, 9, 10, 11]] [VIs (.agg #[.int .i64 P, .slice A n c]), VIs (.int .i64 P), VIs (.agg #[.int .i64 P, .slice A n c]), VIs (.slice X (pw n) cx), VSl w (pw n) (revL P xs), VIs (.agg #[.int .i64 P, .slice A n c]), VIs (.int .i64 P), VIs (.agg #[.int .i64 P, .slice A n c]), VIs (.slice X (pw n) cx), VIs (.int .i64 (nrmL P sq xs)), VIs (.int .i64 (invF P (nrmL P sq xs))), VSl w (pw n) (scaleL P (revL P xs) (invF P (nrmL P sq xs))), VSl w (pw n) (scaleL P (revL P xs) (invF P (nrmL P sq xs)))] (fun w' => Blk w' w.heap.size 26 #[.int .i64 P, .slice A n c] ∧ Below w.heap.size w w') (by kernel_rfl) (by kernel_rfl) (fun _ _ h hb => ⟨h.1.below hb h.1.lt, h.2.trans (hb.mono h.2.size)⟩) (⟨k0.drew, hB0.drew⟩) (fun x => ?_)
  refine obs_step (Eq.trans (by simp only [zA, zC]; exact rfl) rfl) rfl (fun w' hS hV K hK => ?_) ?_
  · obtain ⟨q0, q1⟩ := hS.1.two
    go_simp
    exact hK.out _ _ _ rfl rfl rfl (Below.refl _ _)
  simp only [zD, zE, zF]
  refine obs_step (Eq.trans (by simp only [zA, zB, zC]; exact rfl) rfl) rfl (fun w' hS hV K hK => ?_) ?_
  · simp only [List.mem_cons, List.not_mem_nil, or_false, forall_eq, List.getD_cons_succ, List.getD_cons_zero, VIs, VSl, VAny] at hV
    obtain e0 := hV
    obtain ⟨q0, q1⟩ := hS.1.two
    go_simp
    refine (field_any _ _ _ _ _).mono ?_
    rintro e w1 ⟨rfl, hb⟩
    exact hK.out _ _ _ rfl rfl rfl hb
  simp only [zD, zE, zF]
  refine obs_step (Eq.trans (by simp only [zA, zB, zC]; exact rfl) rfl) rfl (fun w' hS hV K hK => ?_) ?_
  · obtain ⟨q0, q1⟩ := hS.1.two
    go_simp
    exact hK.out _ _ _ rfl rfl rfl (Below.refl _ _)
  simp only [zD, zE, zF]
  refine obs_step (Eq.trans (by simp only [zA, zB, zC]; exact rfl) rfl) rfl (fun w' hS hV K hK => ?_) ?_
  · obtain ⟨q0, q1⟩ := hS.1.two
    go_simp
    exact hK.out _ _ _ rfl rfl rfl (Below.refl _ _)
  simp only [zD, zE, zF]
  refine obs_step (Eq.trans (by simp only [zA, zB, zC]; exact rfl) rfl) rfl (fun w' hS hV K hK => ?_) ?_
  · simp only [List.mem_cons, List.not_mem_nil, or_false, forall_eq_or_imp, forall_eq, List.getD_cons_succ, List.getD_cons_zero, VIs, VSl, VAny] at hV
    obtain ⟨e2, e3⟩ := hV
    obtain ⟨q0, q1⟩ := hS.1.two
    go_simp
    refine (reverse_any P A n c _ (pw n) _ xs _ hp hp2 HPW64 (hx.below hS.2) hxs).mono ?_
    rintro e w1 ⟨A2, c2, rfl, hM⟩
    exact hK.out _ _ _ rfl rfl ⟨_, _, rfl, hM.after hS.2⟩ hM.b
  simp only [zD, zE, zF]
  refine obs_step (Eq.trans (by simp only [zA, zB, zC]; exact rfl) rfl) rfl (fun w' hS hV K hK => ?_) ?_
  · obtain ⟨q0, q1⟩ := hS.1.two
    go_simp
    exact hK.out _ _ _ rfl rfl rfl (Below.refl _ _)
  simp only [zD, zE, zF]
  refine obs_step (Eq.trans (by simp only [zA, zB, zC]; exact rfl) rfl) rfl (fun w' hS hV K hK => ?_) ?_
  · simp only [List.mem_cons, List.not_mem_nil, or_false, forall_eq, List.getD_cons_succ, List.getD_cons_zero, VIs, VSl, VAny] at hV
    obtain e5 := hV
    obtain ⟨q0, q1⟩ := hS.1.two
    go_simp
    refine (field_any _ _ _ _ _).mono ?_
    rintro e w1 ⟨rfl, hb⟩
    exact hK.out _ _ _ rfl rfl rfl hb
  simp only [zD, zE, zF]
  refine obs_step (Eq.trans (by simp only [zA, zB, zC]; exact rfl) rfl) rfl (fun w' hS hV K hK => ?_) ?_
  · obtain ⟨q0, q1⟩ := hS.1.two
    go_simp
    exact hK.out _ _ _ rfl rfl rfl (Below.refl _ _)
  simp only [zD, zE, zF]
  refine obs_step (Eq.trans (by simp only [zA, zB, zC]; exact rfl) rfl) rfl (fun w' hS hV K hK => ?_) ?_
  · obtain ⟨q0, q1⟩ := hS.1.two
    go_simp
    exact hK.out _ _ _ rfl rfl rfl (Below.refl _ _)
  simp only [zD, zE, zF]
  refine obs_step (Eq.trans (by simp only [zA, zB, zC]; exact rfl) rfl) rfl (fun w' hS hV K hK => ?_) ?_
  · simp only [List.mem_cons, List.not_mem_nil, or_false, forall_eq_or_imp, forall_eq, List.getD_cons_succ, List.getD_cons_zero, VIs, VSl, VAny] at hV
    obtain ⟨e7, e8⟩ := hV
    obtain ⟨q0, q1⟩ := hS.1.two
    go_simp
    refine (spinorNorm_any P A n c sq _ _ xs _ hp hp2 hn (ha.below hS.2) hs (hx.below hS.2) hxs hcx).mono ?_
    rintro e w1 ⟨rfl, hb⟩
    exact hK.out _ _ _ rfl rfl rfl hb
  simp only [zD, zE, zF]
  refine obs_step (Eq.trans (by simp only [zA, zB, zC]; exact rfl) rfl) rfl (fun w' hS hV K hK => ?_) ?_
  · simp only [List.mem_cons, List.not_mem_nil, or_false, forall_eq_or_imp, forall_eq, List.getD_cons_succ, List.getD_cons_zero, VIs, VSl, VAny] at hV
    obtain ⟨e5, e6, e7, e8, e9⟩ := hV
    obtain ⟨q0, q1⟩ := hS.1.two
    go_simp
    refine (inv_any P (nrmL P sq xs) _ hp hp2 (nrmL_small hp sq xs).1 (nrmL_small hp sq xs).2).mono ?_
    rintro e w1 ⟨rfl, rfl⟩
    exact hK.out _ _ _ rfl rfl rfl (Below.refl _ _)
  simp only [zD, zE, zF]
  refine obs_step (Eq.trans (by simp only [zA, zB, zC]; exact rfl) rfl) rfl (fun w' hS hV K hK => ?_) ?_
  · simp only [List.mem_cons, List.not_mem_nil, or_false, forall_eq_or_imp, forall_eq, List.getD_cons_succ, List.getD_cons_zero, VIs, VSl, VAny] at hV
    obtain ⟨e0, e1, e2, e3, ⟨A4, c4, e4, h4⟩, e5, e6, e7, e8, e9, e10⟩ := hV
    obtain ⟨q0, q1⟩ := hS.1.two
    go_simp
    refine (scaled_any P _ (pw n) _ (invF P (nrmL P sq xs)) (revL P xs) _ hp hp2 HPW h4.rd (sgnL_nums (by omega) revT hxs) (by have := (invF_small hp (nrmL P sq xs)); omega) (by have := (invF_small hp (nrmL P sq xs)); omega)).mono ?_
    rintro e w1 ⟨A2, c2, rfl, hM⟩
    exact hK.out _ _ _ rfl rfl ⟨_, _, rfl, hM.after hS.2⟩ hM.b
  simp only [zD, zE, zF]
  refine obs_step (Eq.trans (by simp only [zA, zB, zC]; exact rfl) rfl) rfl (fun w' hS hV K hK => ?_) ?_
  · simp only [List.mem_cons, List.not_mem_nil, or_false, forall_eq_or_imp, forall_eq, List.getD_cons_succ, List.getD_cons_zero, VIs, VSl, VAny] at hV
    obtain ⟨e0, e1, e2, e3, ⟨A4, c4, e4, h4⟩, e5, e6, e7, e8, e9, e10, ⟨A11, c11, e11, h11⟩⟩ := hV
    obtain ⟨q0, q1⟩ := hS.1.two
    go_simp
    exact hK.out _ _ _ rfl rfl ⟨_, _, rfl, h11⟩ (Below.refl _ _)
  simp only [zD, zE, zF]
  refine fun w' hS hV => ?_
  have hV := fun i hi => hV i (List.mem_range.1 hi)
  simp only [List.range, List.range.loop, List.mem_cons, List.not_mem_nil, or_false, forall_eq_or_imp, forall_eq, List.getD_cons_succ, List.getD_cons_zero, VIs, VSl, VAny] at hV
  obtain ⟨e0, e1, e2, e3, ⟨A4, c4, e4, h4⟩, e5, e6, e7, e8, e9, e10, ⟨A11, c11, e11, h11⟩, ⟨A12, c12, e12, h12⟩⟩ := hV
  simp only [e0, e1, e2, e3, e4, e5, e6, e7, e8, e9, e10, e11, e12]
  clear e0 e1 e2 e3 e4 e5 e6 e7 e8 e9 e10 e11 e12
  refine wpAny_done (by kernel_rfl) ?_ _
  go_wp2
  go_ret
  exact ⟨_, _, rfl, h12⟩
set_option maxHeartbeats 1600000 in
set_option maxRecDepth 8000 in
theorem sandwich_any (P : Int) (A : Option Addr) (n c : Nat) (sq : List Int) (X : Option Addr) (cx : Nat) (xs : List Int) (Y : Option Addr) (cy : Nat) (v : List Int) (w : World) (hp : 2 ≤ P) (hp2 : P ≤ 13) (hn : n ≤ 6) (ha : Rd w A n (ints sq)) (hs : NumsL P sq) (hx : Rd w X (pw n) (ints xs)) (hxs : NumsL P xs) (hcx : pw n ≤ cx) (hy : Rd w Y n (ints v)) (hys : NumsL P v) (_hcy : n ≤ cy) :
    Calls Tryz.prog 163 #[.agg #[.int .i64 P, .slice A n c], .slice X (pw n) cx, .slice Y n cy] w fun e w' => ∃ A' c', e = .returned (.slice A' (n) c') ∧ MkI w w' A' (n) c' (sandL P sq n xs v) := by
  have hB0 : Below w.heap.size w (w.alloc (.cells #[.int .i64 P, .slice A n c] 26)) := (Below.refl _ _).alloc (Nat.le_refl _) _
  have k0 : Blk (w.alloc (.cells #[.int .i64 P, .slice A n c] 26)) w.heap.size 26 #[.int .i64 P, .slice A n c] := Blk.new _ _ _
  have HPW : pw n ≤ 65536 := Nat.le_trans (pw_le (show n ≤ 10 by omega)) (by decide)
  have HPW64 : pw n ≤ 64 := pw_le hn
  go_enter Tryz.func163, Tryz.ntmps163
  go_wp2
  refine wp_obs 15 [[], [], [], [], [2, 3], [], [], [5, 6], [], [], [8, 9], [2, 3, 4, 5, 6, 7, 8, 9, 10], [1, 2, 3, 4, 5, 6, 7, 8, 9, 10, 11], [0, 1, 2, 3, 4, 5, 6, 7, 8, 9, 10, 11, 12], [0, 1, 2, 3, 4, 5, 6, 7, 8, 9, 10, 11, 12, 13]] [VIs (.agg #[.int .i64 P, .slice A n c]), VIs (.agg #[.int .i64 P, .slice A n c]), VIs (.agg #[.int .i64 P, .slice A n c]), VIs (.slice X (pw n) cx), VSl w (pw n) (invoL P xs), VIs (.agg #[.int .i64 P, .slice A n c]), VIs (.slice Y n cy), VSl w (pw n) (vecTo n v n), VIs (.agg #[.int .i64 P, .slice A n c]), VIs (.slice X (pw n) cx), VSl w (pw n) (vinvL P sq xs), VRow 3 [(invoL P xs), (vecTo n v n), (vinvL P sq xs)], VSl w (pw n) (timesL P sq n [(invoL P xs), (vecTo n v n), (vinvL P sq xs)]), VSl w (n) (partL n (timesL P sq n [(invoL P xs), (vecTo n v n), (vinvL P sq xs)])), VSl w (n) (partL n (timesL P sq n [(invoL P xs), (vecTo n v n), (vinvL P sq xs)]))] (fun w' => Blk w' w.heap.size 26 #[.int .i64 P, .slice A n c] ∧ Below w.heap.size w w') (by kernel_rfl) (by kernel_rfl) (fun _ _ h hb => ⟨h.1.below hb h.1.lt, h.2.trans (hb.mono h.2.size)⟩) (⟨k0.drew, hB0.drew⟩) (fun x => ?_)
  refine obs_step (Eq.trans (by simp only [zA, zC]; exact rfl) rfl) rfl (fun w' hS hV K hK => ?_) ?_
  · obtain ⟨q0, q1⟩ := hS.1.two
    go_simp
    exact hK.out _ _ _ rfl rfl rfl (Below.refl _ _)
  simp only [zD, zE, zF]
  refine obs_step (Eq.trans (by simp only [zA, zB, zC]; exact rfl) rfl) rfl (fun w' hS hV K hK => ?_) ?_
  · obtain ⟨q0, q1⟩ := hS.1.two
    go_simp
    exact hK.out _ _ _ rfl rfl rfl (Below.refl _ _)
  simp only [zD, zE, zF]
  refine obs_step (Eq.trans (by simp only [zA, zB, zC]; exact rfl) rfl) rfl (fun w' hS hV K hK => ?_) ?_
  · obtain ⟨q0, q1⟩ := hS.1.two
    go_simp
    exact hK.out _ _ _ rfl rfl rfl (Below.refl _ _)
  simp only [zD, zE, zF]
  refine obs_step (Eq.trans (by simp only [zA, zB, zC]; exact rfl) rfl) rfl (fun w' hS hV K hK => ?_) ?_
  · obtain ⟨q0, q1⟩ := hS.1.two
    go_simp
    exact hK.out _ _ _ rfl rfl rfl (Below.refl _ _)
  simp only [zD, zE, zF]
  refine obs_step (Eq.trans (by simp only [zA, zB, zC]; exact rfl) rfl) rfl (fun w' hS hV K hK => ?_) ?_
  · simp only [List.mem_cons, List.not_mem_nil, or_false, forall_eq_or_imp, forall_eq, List.getD_cons_succ, List.getD_cons_zero, VIs, VSl, VRow, VAny] at hV
    obtain ⟨e2, e3⟩ := hV
    obtain ⟨q0, q1⟩ := hS.1.two
    go_simp
    refine (involute_any P A n c _ (pw n) _ xs _ hp hp2 HPW64 (hx.below hS.2) hxs).mono ?_
    rintro e w1 ⟨A2, c2, rfl, hM⟩
    exact hK.out _ _ _ rfl rfl ⟨_, _, rfl, hM.after hS.2⟩ hM.b
  simp only [zD, zE, zF]
  refine obs_step (Eq.trans (by simp only [zA, zB, zC]; exact rfl) rfl) rfl (fun w' hS hV K hK => ?_) ?_
  · obtain ⟨q0, q1⟩ := hS.1.two
    go_simp
    exact hK.out _ _ _ rfl rfl rfl (Below.refl _ _)
  simp only [zD, zE, zF]
  refine obs_step (Eq.trans (by simp only [zA, zB, zC]; exact rfl) rfl) rfl (fun w' hS hV K hK => ?_) ?_
  · obtain ⟨q0, q1⟩ := hS.1.two
    go_simp
    exact hK.out _ _ _ rfl rfl rfl (Below.refl _ _)
  simp only [zD, zE, zF]
  refine obs_step (Eq.trans (by simp only [zA, zB, zC]; exact rfl) rfl) rfl (fun w' hS hV K hK => ?_) ?_
  · simp only [List.mem_cons, List.not_mem_nil, or_false, forall_eq_or_imp, forall_eq, List.getD_cons_succ, List.getD_cons_zero, VIs, VSl, VRow, VAny] at hV
    obtain ⟨e5, e6⟩ := hV
    obtain ⟨q0, q1⟩ := hS.1.two
    go_simp
    refine (vector_any P A n c _ _ v _ (by omega) (hy.below hS.2)).mono ?_
    rintro e w1 ⟨A2, c2, rfl, hM⟩
    exact hK.out _ _ _ rfl rfl ⟨_, _, rfl, hM.after hS.2⟩ hM.b
  simp only [zD, zE, zF]
  refine obs_step (Eq.trans (by simp only [zA, zB, zC]; exact rfl) rfl) rfl (fun w' hS hV K hK => ?_) ?_
  · obtain ⟨q0, q1⟩ := hS.1.two
    go_simp
    exact hK.out _ _ _ rfl rfl rfl (Below.refl _ _)
  simp only [zD, zE, zF]
  refine obs_step (Eq.trans (by simp only [zA, zB, zC]; exact rfl) rfl) rfl (fun w' hS hV K hK => ?_) ?_
  · obtain ⟨q0, q1⟩ := hS.1.two
    go_simp
    exact hK.out _ _ _ rfl rfl rfl (Below.refl _ _)
  simp only [zD, zE, zF]
  refine obs_step (Eq.trans (by simp only [zA, zB, zC]; exact rfl) rfl) rfl (fun w' hS hV K hK => ?_) ?_
  · simp only [List.mem_cons, List.not_mem_nil, or_false, forall_eq_or_imp, forall_eq, List.getD_cons_succ, List.getD_cons_zero, VIs, VSl, VRow, VAny] at hV
    obtain ⟨e8, e9⟩ := hV
    obtain ⟨q0, q1⟩ := hS.1.two
    go_simp
    refine (versorInverse_any P A n c sq _ _ xs _ hp hp2 hn (ha.below hS.2) hs (hx.below hS.2) hxs hcx).mono ?_
    rintro e w1 ⟨A2, c2, rfl, hM⟩
    exact hK.out _ _ _ rfl rfl ⟨_, _, rfl, hM.after hS.2⟩ hM.b
  simp only [zD, zE, zF]
  refine obs_step (Eq.trans (by simp only [zA, zB, zC]; exact rfl) rfl) rfl (fun w' hS hV K hK => ?_) ?_
  · simp only [List.mem_cons, List.not_mem_nil, or_false, forall_eq_or_imp, forall_eq, List.getD_cons_succ, List.getD_cons_zero, VIs, VSl, VRow, VAny] at hV
    obtain ⟨e2, e3, ⟨A4, c4, e4, h4⟩, e5, e6, ⟨A7, c7, e7, h7⟩, e8, e9, ⟨A10, c10, e10, h10⟩⟩ := hV
    obtain ⟨q0, q1⟩ := hS.1.two
    go_simp
    exact hK.out _ _ _ rfl rfl ⟨_, _, rfl, rdII_three (Blk.new _ _ _) (Rd.below (h4.rd) ((Below.refl _ _).alloc (Nat.le_refl _) _)) (Rd.below (h7.rd) ((Below.refl _ _).alloc (Nat.le_refl _) _)) (Rd.below (h10.rd) ((Below.refl _ _).alloc (Nat.le_refl _) _)) (h4.2.cap) (h7.2.cap) (h10.2.cap)⟩ ((Below.refl _ _).alloc (Nat.le_refl _) _)
  simp only [zD, zE, zF]
  refine obs_step (Eq.trans (by simp only [zA, zB, zC]; exact rfl) rfl) rfl (fun w' hS hV K hK => ?_) ?_
  · simp only [List.mem_cons, List.not_mem_nil, or_false, forall_eq_or_imp, forall_eq, List.getD_cons_succ, List.getD_cons_zero, VIs, VSl, VRow, VAny] at hV
    obtain ⟨e1, e2, e3, ⟨A4, c4, e4, h4⟩, e5, e6, ⟨A7, c7, e7, h7⟩, e8, e9, ⟨A10, c10, e10, h10⟩, ⟨A11, c11, e11, h11⟩⟩ := hV
    obtain ⟨q0, q1⟩ := hS.1.two
    go_simp
    refine (times_any P A n c sq _ 3 _ [(invoL P xs), (vecTo n v n), (vinvL P sq xs)] _ hp hp2 hn (by omega) (ha.below hS.2) hs h11 (all_three ⟨(sgnL_nums (by omega) oddT hxs), Rd.lenI (h4.rd)⟩ ⟨(vecTo_nums (by omega) n v hys n), Rd.lenI (h7.rd)⟩ ⟨(vinvL_nums hp sq xs), Rd.lenI (h10.rd)⟩)).mono ?_
    rintro e w1 ⟨A2, c2, rfl, hM⟩
    exact hK.out _ _ _ rfl rfl ⟨_, _, rfl, hM.after hS.2⟩ hM.b
  simp only [zD, zE, zF]
  refine obs_step (Eq.trans (by simp only [zA, zB, zC]; exact rfl) rfl) rfl (fun w' hS hV K hK => ?_) ?_
  · simp only [List.mem_cons, List.not_mem_nil, or_false, forall_eq_or_imp, forall_eq, List.getD_cons_succ, List.getD_cons_zero, VIs, VSl, VRow, VAny] at hV
    obtain ⟨e0, e1, e2, e3, ⟨A4, c4, e4, h4⟩, e5, e6, ⟨A7, c7, e7, h7⟩, e8, e9, ⟨A10, c10, e10, h10⟩, ⟨A11, c11, e11, h11⟩, ⟨A12, c12, e12, h12⟩⟩ := hV
    obtain ⟨q0, q1⟩ := hS.1.two
    go_simp
    refine (vectorPart_any P A n c _ _ (timesL P sq n [(invoL P xs), (vecTo n v n), (vinvL P sq xs)]) _ (by omega) h12.rd).mono ?_
    rintro e w1 ⟨A2, c2, rfl, hM⟩
    exact hK.out _ _ _ rfl rfl ⟨_, _, rfl, hM.after hS.2⟩ hM.b
  simp only [zD, zE, zF]
  refine obs_step (Eq.trans (by simp only [zA, zB, zC]; exact rfl) rfl) rfl (fun w' hS hV K hK => ?_) ?_
  · simp only [List.mem_cons, List.not_mem_nil, or_false, forall_eq_or_imp, forall_eq, List.getD_cons_succ, List.getD_cons_zero, VIs, VSl, VRow, VAny] at hV
    obtain ⟨e0, e1, e2, e3, ⟨A4, c4, e4, h4⟩, e5, e6, ⟨A7, c7, e7, h7⟩, e8, e9, ⟨A10, c10, e10, h10⟩, ⟨A11, c11, e11, h11⟩, ⟨A12, c12, e12, h12⟩, ⟨A13, c13, e13, h13⟩⟩ := hV
    obtain ⟨q0, q1⟩ := hS.1.two
    go_simp
    exact hK.out _ _ _ rfl rfl ⟨_, _, rfl, h13⟩ (Below.refl _ _)
  simp only [zD, zE, zF]
  refine fun w' hS hV => ?_
  have hV := fun i hi => hV i (List.mem_range.1 hi)
  simp only [List.range, List.range.loop, List.mem_cons, List.not_mem_nil, or_false, forall_eq_or_imp, forall_eq, List.getD_cons_succ, List.getD_cons_zero, VIs, VSl, VRow, VAny] at hV
  obtain ⟨e0, e1, e2, e3, ⟨A4, c4, e4, h4⟩, e5, e6, ⟨A7, c7, e7, h7⟩, e8, e9, ⟨A10, c10, e10, h10⟩, ⟨A11, c11, e11, h11⟩, ⟨A12, c12, e12, h12⟩, ⟨A13, c13, e13, h13⟩, ⟨A14, c14, e14, h14⟩⟩ := hV
  simp only [e0, e1, e2, e3, e4, e5, e6, e7, e8, e9, e10, e11, e12, e13, e14]
  clear e0 e1 e2 e3 e4 e5 e6 e7 e8 e9 e10 e11 e12 e13 e14
  refine wpAny_done (by kernel_rfl) ?_ _
  go_wp2
  go_ret
  refine ⟨_, _, rfl, ?_⟩
  unfold sandL
  rw [← timesL_three P sq n (invoL P xs) _ _ (by unfold invoL; rw [sgnL_len, hx.lenI]) (sgnL_nums (by omega) oddT hxs)]
  exact h14
end Go.Proofs.YtdbibmilicjllaaGreat
namespace Go.Proofs.YtdbibmilicjllaaGreat
open Go.RowKit
/-- Are there grades of both parities? -/
def mixB (gs : List Int) : Bool := gs.any fun g => g % (2 : Int) != gs.getD 0 0 % (2 : Int)
end Go.Proofs.YtdbibmilicjllaaGreat

/-
  LawSumOfTexts: part 3 of the texts that the proof needs. No condition.
-/
import Derived.Test.YticofgmmjecleaaGreatDoorP2
namespace Go.Proofs.YticofgmmjecleaaGreatDoor
open Go.RowKit
set_option maxRecDepth 8000 in
set_option maxHeartbeats 400000 in
set_option maxRecDepth 8000 in
theorem clone_any (A : Option Addr) (n c : Nat) (xs : List Int) (w : World) (hn : n ≤ 65536) (ha : Rd w A n (ints xs)) :
    Calls Tryz.prog 139 #[.slice A n c] w fun e w' => ∃ A' c', e = .returned (.slice A' n c') ∧ MkI w w' A' n c' xs := by
  have hxl : xs.length = n := by have := ha.1; rwa [ints_length] at this
  cases A with
  | none =>
    have h0 : n = 0 := by
      rcases Nat.eq_zero_or_pos n with h | h
      · exact h
      · obtain ⟨g, o, e, _⟩ := ha.2 h; cases e
    subst h0
    have hxs : xs = [] := List.eq_nil_of_length_eq_zero hxl
    subst hxs
    clear ha hxl hn
    have hq := fun w : World => Lib.run_eql_slice_nil (P := Tryz.prog) w 22 2 none 0 c 0 0 Tryz.underlying22
    simp only [Option.isNone_none] at hq
    go_enter Tryz.func139, Tryz.ntmps139
    go_wp2
    go_ret
    exact ⟨none, 0, rfl, Mk.nil (Below.refl _ _)⟩
  | some p =>
    have hM0 := Mk.lit (E := 2) (Below.refl w.heap.size w) #[] (by simp)
    obtain ⟨i, hi, h1, h2, h3⟩ := info_parts info_i
    obtain ⟨b1, b2⟩ := bound_of (Nat.le_trans hn (by decide))
    clear b1
    have HB := Lib.hid b2
    clear b2
    have hnews : ∀ (j : Nat) (u : Value), (ints xs)[j]? = some u → (w.alloc (.cells #[] 2)).cell? (p.add j) = some u := fun j u hu => by
      have hj : j < n := by have := (List.getElem?_eq_some_iff.1 hu).1; rw [ints_length] at this; omega
      obtain ⟨g, o, e, hc⟩ := (ha.below ((Below.refl _ w).alloc (Nat.le_refl _) (.cells #[] 2))).2 (by omega)
      injection e with e; subst e
      rw [Addr.add_lit]
      exact hc j u hu
    have Hx := Lib.hid hxl
    have HN := Lib.hid hnews
    have HI := Lib.hid hi
    have H1 := Lib.hid h1
    have H2 := Lib.hid h2
    have H3 := Lib.hid h3
    clear hnews hi h1 h2 h3 hxl
    have hq := fun w : World => Lib.run_eql_slice_nil (P := Tryz.prog) w 22 2 (some p) n c 0 0 Tryz.underlying22
    simp only [Option.isNone_some] at hq
    go_enter Tryz.func139, Tryz.ntmps139
    go_wp2_with (at_builtin; refine wpList_append_own_at (w.alloc (.cells #[] 2)) rfl _ _ 22 rfl w.heap.size 2 i _ 1 8 Tryz.underlying22 HI.out H1.out H2.out H3.out rfl (by omega) (.slice (some ⟨w.heap.size, 0, none⟩) 0 0) 0 [] rfl hM0.2 p n c (ints xs) rfl (by rw [ints_length, Hx.out, Nat.mul_one]) HN.out (by intro u hu; obtain ⟨y, _, rfl⟩ := List.mem_map.1 hu; rfl) (by simp only [maxLen]; omega) (by have := HB.out 8 (by omega); omega) (by simp) ?_; intro v' w' hown hg _ _)
    have hb' : Below w.heap.size w w' := hM0.1.grown hg (by simp) (fun k hk => (hM0.2.lt k hk).1)
    rw [Nat.zero_add, List.nil_append] at hown
    rcases hown.2 with ⟨rfl, h0⟩ | ⟨g, cap, cur, rfl, hr⟩
    · subst h0
      go_ret
      exact ⟨none, 0, rfl, hb', hown⟩
    · go_ret
      exact ⟨_, _, rfl, hb', hown⟩
/-- The blades of the grades that t tells turned to their negatives. -/
def sgnL (p : Int) (t : Nat → Bool) (xs : List Int) : List Int := tab xs.length fun i => if t (pc i) then (-(xs.getD i 0)) % p else xs.getD i 0
theorem sgnL_len (p : Int) (t : Nat → Bool) (xs : List Int) : (sgnL p t xs).length = xs.length := tab_len _ _
theorem sgnL_nums {p : Int} (hp : 0 < p) (t : Nat → Bool) {xs : List Int} (h : NumsL p xs) : NumsL p (sgnL p t xs) := NumsL.tab fun i _ => by
  split
  · exact ⟨Int.emod_nonneg _ (by omega), Int.emod_lt_of_pos _ hp⟩
  · exact h.getD hp i
/-- The first k places of f, then those of xs. -/
def mixL (f : Nat → Int) (xs : List Int) (k : Nat) : List Int := tab xs.length fun i => if i < k then f i else xs.getD i 0
theorem mixL_len (f : Nat → Int) (xs : List Int) (k : Nat) : (mixL f xs k).length = xs.length := tab_len _ _
theorem mixL_zero (f : Nat → Int) (xs : List Int) : mixL f xs 0 = xs := by
  refine Eq.trans (tab_congr fun i _ => ?_) (eq_tab 0 rfl).symm
  rw [if_neg (by omega)]
theorem mixL_all (f : Nat → Int) (xs : List Int) : mixL f xs xs.length = tab xs.length f := tab_congr fun _i hi => if_pos hi
theorem mixL_succ (f : Nat → Int) (xs : List Int) (k : Nat) (hk : k < xs.length) : mixL f xs (k + 1) = (mixL f xs k).set k (f k) := by
  apply list_ext_getD 0 (by rw [List.length_set, mixL_len, mixL_len])
  intro i hi
  rw [mixL_len] at hi
  rw [getD_set, mixL_len]
  unfold mixL
  rw [tab_getD hi, tab_getD hi]
  by_cases h : k = i
  · subst h; rw [if_pos (by omega), if_pos ⟨rfl, hk⟩]
  · rw [if_neg (c := k = i ∧ _) (fun hh => h hh.1)]
    by_cases h2 : i < k
    · rw [if_pos (by omega), if_pos h2]
    · rw [if_neg (by omega), if_neg h2]
theorem mixL_skip (f : Nat → Int) (xs : List Int) (k : Nat) (hf : f k = xs.getD k 0) : mixL f xs (k + 1) = mixL f xs k := by
  refine tab_congr fun i _ => ?_
  by_cases h : i < k
  · rw [if_pos (by omega), if_pos h]
  · by_cases h2 : i = k
    · subst h2; rw [if_pos (by omega), if_neg (by omega), hf]
    · rw [if_neg (by omega), if_neg h]
set_option maxHeartbeats 1600000 in
set_option maxRecDepth 8000 in
theorem signed_any (f : FuncId) (t : Nat → Bool) (hf : ∀ (k : Nat) (w : World), k ≤ 6 → Calls Tryz.prog f #[.int .i64 k] w fun e w' => e = .returned (.bool (t k)) ∧ w = w') (hcf : ∀ (args : Array Value) (w : World), (callFunc f args).run Tryz.prog w = .ok (.enter f args) w)
    (P : Int) (A : Option Addr) (n c : Nat) (X : Option Addr) (m cx : Nat) (xs : List Int) (w : World) (hp : 2 ≤ P) (hp2 : P ≤ 13) (hm : m ≤ 64) (hx : Rd w X m (ints xs)) (hxs : NumsL P xs) :
    Calls Tryz.prog 116 #[.agg #[.int .i64 P, .slice A n c], .slice X m cx, .func (.func f) #[] #[]] w fun e w' => ∃ A' c', e = .returned (.slice A' m c') ∧ MkI w w' A' m c' (sgnL P t xs) := by
  have hxl : xs.length = m := by have := hx.1; rwa [ints_length] at this
  have hB0 : Below w.heap.size w (w.alloc (.cells #[.int .i64 P, .slice A n c] 28)) := (Below.refl _ w).alloc (Nat.le_refl _) _
  have k0 : Blk (w.alloc (.cells #[.int .i64 P, .slice A n c] 28)) w.heap.size 28 #[.int .i64 P, .slice A n c] := Blk.new _ _ _
  have HX := Lib.hid hxl; clear hxl
  go_enter Tryz.func116, Tryz.ntmps116
  go_wp2_with fail
  refine (clone_any _ _ _ _ _ (by omega) (hx.below hB0)).mono ?_
  rintro e w1 ⟨A', c', rfl, hM1⟩
  have k1 := k0.below hM1.b k0.lt
  have hM := hM1.after hB0
  have hl0 : MkI w w1 A' m c' (mixL (fun i => if t (pc i) then (-(xs.getD i 0)) % P else xs.getD i 0) xs 0) := by rw [mixL_zero]; exact hM
  clear k0 hM1 hM hB0
  go_wp2_with fail
  go_loopw [8, 9, 14] (fun _ _ i wr => ∃ k : Nat, k ≤ m ∧ i = .int .i64 k ∧ MkI w wr A' m c' (mixL (fun i => if t (pc i) then (-(xs.getD i 0)) % P else xs.getD i 0) xs k) ∧ Blk wr w.heap.size 28 #[.int .i64 P, .slice A n c]) (fun _ _ i _ => m - (intOf i).toNat)
  case atStart => exact ⟨0, by omega, rfl, hl0, k1⟩
  case round =>
    obtain ⟨k, hk, rfl, hM, hk2⟩ := hrel
    clear hl0 k1
    by_cases hlt : k < m
    · obtain ⟨gx, ox, rfl, hxk, hcx⟩ := (hx.below hM.b).int hlt
      obtain ⟨x1, x2⟩ := hxs _ (List.getElem_mem hxk)
      have hpk := pc_le 6 k (by omega)
      rcases hM.2.form with ⟨_, h0⟩ | ⟨g, rfl, hg, hgl⟩
      · omega
      have HNE : Hid (g ≠ w.heap.size) := Lib.hid (fun e => by
        have hne := hM.2.ne_blk hk2 (by decide)
        simp [Value.ownBlock, e] at hne)
      cases ht : t (pc k)
      · have HM := Lib.hid (mixL_skip (fun i => if t (pc i) then (-(xs.getD i 0)) % P else xs.getD i 0) xs k (by simp [ht]) ▸ hM)
        have HT := Lib.hid ht
        clear hM ht
        go_wp2_with (go_at_call 140; refine (gradeOf_any k _ (by omega)).mono ?_; rintro e w' ⟨rfl, rfl⟩)
        refine (hf (pc k) _ hpk).mono ?_
        rintro e w' ⟨rfl, rfl⟩
        rw [HT.out]
        go_wp2
        go_roundw
        case rel => exact ⟨k + 1, by omega, by go_num, HM.out, hk2⟩
        case measure => simp [intOf]; omega
      · have hset := (hM.set k (.int .i64 ((-xs[k]) % P))).1
        have hfk : (if t (pc k) = true then (-(xs.getD k 0)) % P else xs.getD k 0) = (-xs[k]) % P := by rw [if_pos ht, getD_of_lt 0 hxk]
        rw [ints_set] at hset
        have HS : Hid (MkI w (wr.setCell ⟨g, k, none⟩ (.int .i64 ((-xs[k]) % P))) (some ⟨g, 0, none⟩) m c' (mixL (fun i => if t (pc i) then (-(xs.getD i 0)) % P else xs.getD i 0) xs (k + 1))) := Lib.hid (by rw [mixL_succ _ _ _ (by rw [HX.out]; exact hlt), hfk]; exact hset)
        have hAt : Hid (∀ w', MkI w w' (some ⟨g, 0, none⟩) m c' (mixL (fun i => if t (pc i) then (-(xs.getD i 0)) % P else xs.getD i 0) xs k) → w'.cell? ⟨g, k, none⟩ = some (.int .i64 ((mixL (fun i => if t (pc i) then (-(xs.getD i 0)) % P else xs.getD i 0) xs k).getD k 0)) ∧ w'.frozen? ⟨g, k, none⟩ = false) :=
          Lib.hid (fun w' h => mkI_at h hlt)
        have HT := Lib.hid ht
        have HM := Lib.hid hM
        clear hset hfk ht hM
        go_wp2_with (go_at_call 140; refine (gradeOf_any k _ (by omega)).mono ?_; rintro e w' ⟨rfl, rfl⟩)
        refine (hf (pc k) _ hpk).mono ?_
        rintro e w' ⟨rfl, rfl⟩
        rw [HT.out]
        obtain ⟨q0, q1⟩ := hk2.two
        go_wp2_with fail
        refine (field_any _ _ _ _ _).mono ?_
        rintro e w2 ⟨rfl, hb2⟩
        have hM2 := HM.out.below hb2
        have hk3 := hk2.below hb2 hk2.lt
        obtain ⟨hoc, hof⟩ := hAt.out _ hM2
        obtain ⟨v0, hv0⟩ : ∃ v, v = (mixL (fun i => if t (pc i) then (-(xs.getD i 0)) % P else xs.getD i 0) xs k).getD k 0 := ⟨_, rfl⟩
        rw [← hv0] at hoc
        have hset := (hM2.set k (.int .i64 ((-xs[k]) % P))).1
        have hfk : (if t (pc k) = true then (-(xs.getD k 0)) % P else xs.getD k 0) = (-xs[k]) % P := by rw [if_pos HT.out, getD_of_lt 0 hxk]
        rw [ints_set] at hset
        have HS2 : Hid (MkI w (w2.setCell ⟨g, k, none⟩ (.int .i64 ((-xs[k]) % P))) (some ⟨g, 0, none⟩) m c' (mixL (fun i => if t (pc i) then (-(xs.getD i 0)) % P else xs.getD i 0) xs (k + 1))) := Lib.hid (by rw [mixL_succ _ _ _ (by rw [HX.out]; exact hlt), hfk]; exact hset)
        have HKN := Lib.hid (hk3.far (p := ⟨g, k, none⟩) HNE.out.symm (.int .i64 ((-xs[k]) % P)))
        clear hv0 HS HM hM2 hk3 hk2 q0 q1 hset hfk
        go_wp2_with (go_at_call 94; refine (num_any _ (-xs[k]) _ (by omega) hp2 (by omega) (by omega)).mono ?_; rintro e w' ⟨rfl, rfl⟩)
        go_roundw
        case rel => exact ⟨k + 1, by omega, by go_num, HS2.out, HKN.out⟩
        case measure => simp [intOf]; omega
    · obtain rfl : k = m := by omega
      have hM2 := hM
      rw [← HX.out, mixL_all, HX.out] at hM2
      go_wp2
      go_ret
      exact ⟨_, _, rfl, by unfold sgnL; rw [HX.out]; exact hM2⟩
def revT (k : Nat) : Bool := k * (k - 1) / 2 % 2 == 1
theorem rev_bool (k : Nat) (hk : k ≤ 1000) : ((k : Int) * ((k : Int) - 1) / 2 % 2 == 1) = revT k := by
  unfold revT
  rw [Bool.eq_iff_iff]
  simp only [beq_iff_eq]
  rcases Nat.eq_zero_or_pos k with h | h
  · subst h; simp
  · have e : (k : Int) * ((k : Int) - 1) = ((k * (k - 1) : Nat) : Int) := by rw [Int.natCast_mul]; congr 1; omega
    rw [e]; omega
set_option maxHeartbeats 400000 in
set_option maxRecDepth 8000 in
theorem reverse1_tells (k : Nat) (w : World) (hk : k ≤ 6) : Calls Tryz.prog 117 #[.int .i64 k] w fun e w' => e = .returned (.bool (revT k)) ∧ w = w' := by
  have hm : 0 ≤ (k : Int) * ((k : Int) - 1) ∧ (k : Int) * ((k : Int) - 1) ≤ 1000000 := by
    rcases Nat.eq_zero_or_pos k with h | h
    · subst h; simp
    · have := mul_small (show (0 : Int) ≤ k by omega) (show (k : Int) ≤ 1000 by omega) (show (0 : Int) ≤ (k : Int) - 1 by omega) (show (k : Int) - 1 ≤ 1000 by omega)
      omega
  obtain ⟨m1, m2⟩ := hm
  go_enter Tryz.func117, Tryz.ntmps117
  go_wp2
  go_ret
  exact ⟨ret_bool (rev_bool k (by omega)), rfl⟩
def revL (p : Int) (xs : List Int) : List Int := sgnL p revT xs
set_option maxRecDepth 8000 in
set_option maxHeartbeats 400000 in
set_option maxRecDepth 8000 in
theorem reverse_any (P : Int) (A : Option Addr) (n c : Nat) (X : Option Addr) (m cx : Nat) (xs : List Int) (w : World) (hp : 2 ≤ P) (hp2 : P ≤ 13) (hm : m ≤ 64) (hx : Rd w X m (ints xs)) (hxs : NumsL P xs) :
    Calls Tryz.prog 82 #[.agg #[.int .i64 P, .slice A n c], .slice X m cx] w fun e w' => ∃ A' c', e = .returned (.slice A' m c') ∧ MkI w w' A' m c' (revL P xs) := by
  have hB0 : Below w.heap.size w (w.alloc (.cells #[.int .i64 P, .slice A n c] 28)) := (Below.refl _ w).alloc (Nat.le_refl _) _
  have hcall := signed_any 117 revT reverse1_tells (fun _ _ => rfl) P A n c X m cx xs _ hp hp2 hm (hx.below hB0) hxs
  go_enter Tryz.func82, Tryz.ntmps82
  go_wp2_with (go_at_call 116; refine hcall.mono ?_; rintro e w1 ⟨A', c', rfl, hM⟩)
  go_ret
  exact ⟨_, _, rfl, hM.after hB0⟩
end Go.Proofs.YticofgmmjecleaaGreatDoor
namespace Go.Proofs.YticofgmmjecleaaGreatDoor
abbrev By := List UInt8
/-- The digits; what a text begins with of them, and what comes behind. -/
def decs : By := [48, 49, 50, 51, 52, 53, 54, 55, 56, 57]
def digL (t : By) : By := t.takeWhile (decs.contains ·)
def resL (t : By) : By := t.dropWhile (decs.contains ·)
theorem dig_res (t : By) : digL t ++ resL t = t := List.takeWhile_append_dropWhile
theorem resL_len (t : By) : (resL t).length ≤ t.length := by
  have := congrArg List.length (dig_res t)
  rw [List.length_append] at this; omega
/-- The name of a blade. -/
def nameTo (m : Nat) : Nat → By
  | 0 => [101]
  | i + 1 => if bit m i = 1 then nameTo m i ++ [UInt8.ofNat (48 + i)] else nameTo m i
def nameL (n m : Nat) : By := if m = 0 then [49] else nameTo m n
/-- The first blade from i on, among k, with a name. -/
def maskF (n : Nat) (t : By) : Nat → Nat → Option Nat
  | 0, _ => none
  | k + 1, i => if nameL n i = t then some i else maskF n t k (i + 1)
def maskOf (n : Nat) (t : By) : Option Nat := maskF n t (pw n) 0
theorem maskF_lt {n : Nat} {t : By} : ∀ {k i m : Nat}, maskF n t k i = some m → i ≤ m ∧ m < i + k ∧ nameL n m = t
  | 0, i, m, h => by cases h
  | k + 1, i, m, h => by
    unfold maskF at h
    by_cases h1 : nameL n i = t
    · rw [if_pos h1] at h; injection h with h; subst h; exact ⟨Nat.le_refl _, by omega, h1⟩
    · rw [if_neg h1] at h
      have := maskF_lt h
      exact ⟨by omega, by omega, this.2.2⟩
theorem maskOf_lt {n : Nat} {t : By} {m : Nat} (h : maskOf n t = some m) : m < pw n := by have := maskF_lt h; omega
/-- The number that digits spell. -/
def spell (t : By) : Nat := t.foldl (fun a c => a * 10 + (c.toNat - 48)) 0
/-- The number of an expression: at most nine digits, no 0 ahead of others. -/
def numF (t : By) : Option Nat := if t = [] ∨ 9 < t.length ∨ (1 < t.length ∧ t.head? = some 48) then none else some (spell t)
/-- Kinds of what is read: a sum, what follows its first part, a product, what follows its first part, a factor, an atom. -/
inductive Md where
  | sum | sumL (o : List Int) | prod | prodL (o : List Int) | fac | atom
/-- The first byte, where it is one of some. -/
def nxt (cs t : By) : Option (UInt8 × By) := match t with
  | [] => none
  | c :: r => if cs.contains c then some (c, r) else none
theorem nxt_some {cs t : By} {c : UInt8} {r : By} (h : nxt cs t = some (c, r)) : t = c :: r ∧ cs.contains c = true := by
  unfold nxt at h
  cases t with
  | nil => cases h
  | cons d l =>
    dsimp only at h
    by_cases hc : cs.contains d = true
    · rw [if_pos hc] at h; injection h with h; injection h with h1 h2; subst h1; subst h2; exact ⟨rfl, hc⟩
    · rw [if_neg hc] at h; cases h
/-- What is made of two parts by a sign. -/
def opL (P : Int) (sq : List Int) (c : UInt8) (a b : List Int) : List Int :=
  if c = 42 then mulL P sq a b else if c = 94 then wedgeL P sq a b else if c = 46 then contrL P sq a b else plusL P a b (if c = 45 then -1 else 1)
/-- The reader: what is read, what is left of the text; nothing where the text is wrong. -/
def ev (P : Int) (sq : List Int) (n : Nat) : Nat → Md → By → Option (List Int × By)
  | 0, _, _ => none
  | f + 1, .sum, t => (ev P sq n f .prod t).bind fun r => ev P sq n f (.sumL r.1) r.2
  | f + 1, .sumL o, t => match nxt [43, 45] t with
    | none => some (o, t)
    | some (c, t') => (ev P sq n f .prod t').bind fun r => ev P sq n f (.sumL (opL P sq c o r.1)) r.2
  | f + 1, .prod, t => (ev P sq n f .fac t).bind fun r => ev P sq n f (.prodL r.1) r.2
  | f + 1, .prodL o, t => match nxt [42, 94, 46] t with
    | none => some (o, t)
    | some (c, t') => (ev P sq n f .fac t').bind fun r => ev P sq n f (.prodL (opL P sq c o r.1)) r.2
  | f + 1, .fac, t => match nxt [45, 126] t with
    | none => ev P sq n f .atom t
    | some (c, t') => (ev P sq n f .fac t').map fun r => (if c = 45 then scaleL P r.1 (-1) else revL P r.1, r.2)
  | f + 1, .atom, t => match nxt [40, 101] t with
    | none => (numF (digL t)).map fun (k : Nat) => (scaleL P (bladeL n 0) ((k : Int) % P), resL t)
    | some (c, t') => if c = 40 then (ev P sq n f .sum t').bind fun r => (nxt [41] r.2).map fun q => (r.1, q.2)
      else (maskOf n (101 :: digL t')).map fun (m : Nat) => (bladeL n m, resL t')
/-- How much there is to do. -/
def rk : Md → Nat
  | .sum => 6
  | .sumL _ => 5
  | .prod => 4
  | .prodL _ => 3
  | .fac => 2
  | .atom => 1
def need (m : Md) (t : By) : Nat := 8 * t.length + rk m
/-- A number is read of at least one byte. -/
theorem numF_pos {t : By} {k : Nat} (h : numF (digL t) = some k) : (resL t).length < t.length := by
  have h1 := congrArg List.length (dig_res t)
  rw [List.length_append] at h1
  have h2 : digL t ≠ [] := fun e => by
    unfold numF at h
    rw [if_pos (Or.inl e)] at h; cases h
  have := List.length_pos_iff.2 h2
  omega
/-- The reader never puts anything back; all but what follows a first part take at least one byte. -/
theorem ev_len {P : Int} {sq : List Int} {n : Nat} : ∀ (f : Nat) (m : Md) (t : By) (r : List Int × By), ev P sq n f m t = some r → r.2.length ≤ t.length ∧ ((∀ o, m ≠ .sumL o) → (∀ o, m ≠ .prodL o) → r.2.length < t.length)
  | 0, m, t, r, h => by cases h
  | f + 1, .sum, t, r, h => by
    unfold ev at h
    obtain ⟨a, ha, hb⟩ := Option.bind_eq_some_iff.1 h
    have h1 := (ev_len f _ _ _ ha).2 (fun o => by simp) (fun o => by simp)
    have h2 := (ev_len f _ _ _ hb).1
    exact ⟨by omega, fun _ _ => by omega⟩
  | f + 1, .sumL o, t, r, h => by
    unfold ev at h
    refine ⟨?_, fun h9 => absurd rfl (h9 o)⟩
    split at h
    · injection h with h; subst h; exact Nat.le_refl _
    · rename_i c t' hn
      obtain ⟨rfl, _⟩ := nxt_some hn
      obtain ⟨a, ha, hb⟩ := Option.bind_eq_some_iff.1 h
      have h1 := (ev_len f _ _ _ ha).1
      have h2 := (ev_len f _ _ _ hb).1
      simp only [List.length_cons]; omega
  | f + 1, .prod, t, r, h => by
    unfold ev at h
    obtain ⟨a, ha, hb⟩ := Option.bind_eq_some_iff.1 h
    have h1 := (ev_len f _ _ _ ha).2 (fun o => by simp) (fun o => by simp)
    have h2 := (ev_len f _ _ _ hb).1
    exact ⟨by omega, fun _ _ => by omega⟩
  | f + 1, .prodL o, t, r, h => by
    unfold ev at h
    refine ⟨?_, fun _ h9 => absurd rfl (h9 o)⟩
    split at h
    · injection h with h; subst h; exact Nat.le_refl _
    · rename_i c t' hn
      obtain ⟨rfl, _⟩ := nxt_some hn
      obtain ⟨a, ha, hb⟩ := Option.bind_eq_some_iff.1 h
      have h1 := (ev_len f _ _ _ ha).1
      have h2 := (ev_len f _ _ _ hb).1
      simp only [List.length_cons]; omega
  | f + 1, .fac, t, r, h => by
    unfold ev at h
    split at h
    · have h1 := (ev_len f _ _ _ h).2 (fun o => by simp) (fun o => by simp)
      exact ⟨by omega, fun _ _ => h1⟩
    · rename_i c t' hn
      obtain ⟨rfl, _⟩ := nxt_some hn
      obtain ⟨a, ha, rfl⟩ := Option.map_eq_some_iff.1 h
      have h1 := (ev_len f _ _ _ ha).1
      simp only [List.length_cons]
      exact ⟨by omega, fun _ _ => by omega⟩
  | f + 1, .atom, t, r, h => by
    unfold ev at h
    split at h
    · obtain ⟨a, ha, rfl⟩ := Option.map_eq_some_iff.1 h
      have := numF_pos ha
      exact ⟨by dsimp only; omega, fun _ _ => this⟩
    · rename_i c t' hn
      obtain ⟨rfl, _⟩ := nxt_some hn
      simp only [List.length_cons]
      by_cases hc : c = 40
      · rw [if_pos hc] at h
        obtain ⟨a, ha, hb⟩ := Option.bind_eq_some_iff.1 h
        obtain ⟨q, hq, rfl⟩ := Option.map_eq_some_iff.1 hb
        have h1 := (ev_len f _ _ _ ha).1
        obtain ⟨e, _⟩ := nxt_some hq
        rw [e, List.length_cons] at h1
        exact ⟨by dsimp only; omega, fun _ _ => by dsimp only; omega⟩
      · rw [if_neg hc] at h
        obtain ⟨a, _, rfl⟩ := Option.map_eq_some_iff.1 h
        have := resL_len t'
        exact ⟨by dsimp only; omega, fun _ _ => by dsimp only; omega⟩
/-- More time changes nothing. -/
theorem ev_more {P : Int} {sq : List Int} {n : Nat} : ∀ (f : Nat) (m : Md) (t : By), need m t ≤ f → ev P sq n (f + 1) m t = ev P sq n f m t
  | 0, m, t, h => by cases m <;> simp [need, rk] at h
  | f + 1, .sum, t, h => by
    simp only [need, rk] at h
    rw [ev, ev, ev_more f .prod t (by simp only [need, rk]; omega)]
    cases ha : ev P sq n f .prod t with
    | none => rfl
    | some r =>
      have h1 := (ev_len f _ _ _ ha).1
      exact ev_more f _ _ (by simp only [need, rk]; omega)
  | f + 1, .sumL o, t, h => by
    simp only [need, rk] at h
    rw [ev, ev]
    cases hn : nxt [43, 45] t with
    | none => rfl
    | some q =>
      obtain ⟨c, t'⟩ := q
      obtain ⟨rfl, _⟩ := nxt_some hn
      rw [List.length_cons] at h
      dsimp only
      rw [ev_more f .prod t' (by simp only [need, rk]; omega)]
      cases ha : ev P sq n f .prod t' with
      | none => rfl
      | some r =>
        have h1 := (ev_len f _ _ _ ha).1
        exact ev_more f _ _ (by simp only [need, rk]; omega)
  | f + 1, .prod, t, h => by
    simp only [need, rk] at h
    rw [ev, ev, ev_more f .fac t (by simp only [need, rk]; omega)]
    cases ha : ev P sq n f .fac t with
    | none => rfl
    | some r =>
      have h1 := (ev_len f _ _ _ ha).1
      exact ev_more f _ _ (by simp only [need, rk]; omega)
  | f + 1, .prodL o, t, h => by
    simp only [need, rk] at h
    rw [ev, ev]
    cases hn : nxt [42, 94, 46] t with
    | none => rfl
    | some q =>
      obtain ⟨c, t'⟩ := q
      obtain ⟨rfl, _⟩ := nxt_some hn
      rw [List.length_cons] at h
      dsimp only
      rw [ev_more f .fac t' (by simp only [need, rk]; omega)]
      cases ha : ev P sq n f .fac t' with
      | none => rfl
      | some r =>
        have h1 := (ev_len f _ _ _ ha).1
        exact ev_more f _ _ (by simp only [need, rk]; omega)
  | f + 1, .fac, t, h => by
    simp only [need, rk] at h
    rw [ev, ev]
    cases hn : nxt [45, 126] t with
    | none => exact ev_more f .atom t (by simp only [need, rk]; omega)
    | some q =>
      obtain ⟨c, t'⟩ := q
      obtain ⟨rfl, _⟩ := nxt_some hn
      rw [List.length_cons] at h
      dsimp only
      rw [ev_more f .fac t' (by simp only [need, rk]; omega)]
  | f + 1, .atom, t, h => by
    simp only [need, rk] at h
    rw [ev, ev]
    cases hn : nxt [40, 101] t with
    | none => rfl
    | some q =>
      obtain ⟨c, t'⟩ := q
      obtain ⟨rfl, _⟩ := nxt_some hn
      rw [List.length_cons] at h
      dsimp only
      rw [ev_more f .sum t' (by simp only [need, rk]; omega)]
/-- The value of a whole text. -/
def evE (P : Int) (sq : List Int) (n : Nat) (m : Md) (t : By) : Option (List Int × By) := ev P sq n (need m t) m t
theorem ev_enough {P : Int} {sq : List Int} {n : Nat} {f : Nat} {m : Md} {t : By} (h : need m t ≤ f) : ev P sq n f m t = evE P sq n m t := by
  obtain ⟨d, rfl⟩ : ∃ d, f = need m t + d := ⟨f - need m t, by omega⟩
  clear h
  induction d with
  | zero => rfl
  | succ d ih => rw [← ih]; exact ev_more _ _ _ (Nat.le_add_right _ _)
/-- What is read is a multivector. -/
def MuL (P : Int) (n : Nat) (x : List Int) : Prop := x.length = pw n ∧ NumsL P x
def MdOk (P : Int) (n : Nat) : Md → Prop
  | .sumL o => MuL P n o
  | .prodL o => MuL P n o
  | _ => True
def valR (P : Int) (sq : List Int) (n : Nat) (t : By) : Option (List Int) := match evE P sq n .sum t with
  | some (v, []) => some v
  | _ => none
end Go.Proofs.YticofgmmjecleaaGreatDoor
namespace Go.Proofs.YticofgmmjecleaaGreatDoor
open Go Go.RowKit
/-- Variable g is just the cells cs. -/
def Glob (w : World) (g : Nat) (cs : Array Value) : Prop := ∃ t fr, w.heap[g]? = some (.cells cs t fr)
theorem Glob.lt {w : World} {g : Nat} {cs : Array Value} (h : Glob w g cs) : g < w.heap.size := by obtain ⟨t, fr, h⟩ := h; exact (Array.getElem?_eq_some_iff.1 h).1
theorem Glob.below {w w' : World} {g : Nat} {cs : Array Value} {B : Nat} (h : Glob w g cs) (hb : Below B w w') (hB : g < B) : Glob w' g cs := by obtain ⟨t, fr, h⟩ := h; exact ⟨t, fr, (hb.block g hB).trans h⟩
theorem Glob.var {P : Program} {w : World} {g : Nat} {cs : Array Value} {nm : String} (h : Glob w g cs) (hg : P.globalNamed nm = some g) : w.var? P nm = some cs := by
  obtain ⟨t, fr, h⟩ := h
  unfold World.var?
  rw [hg]
  simp only [Option.bind_some, h]
theorem glob_of_var {P : Program} {w : World} {g : Nat} {cs : Array Value} {nm : String} (h : w.var? P nm = some cs) (hg : P.globalNamed nm = some g) : Glob w g cs := by
  unfold World.var? at h
  rw [hg] at h
  simp only [Option.bind_some] at h
  split at h
  · rename_i cs' t fr e
    injection h with h
    subst h
    exact ⟨t, fr, e⟩
  · cases h
def pow10Vals : Array Value := (Lib.pow10Tab.map fun z => Value.int .u64 z).toArray
/-- What writing numbers and looking into texts reads of the library's variables. -/
structure Env (w : World) : Prop where
  m : ∃ m, w.cell? ⟨0, 0, none⟩ = some (.int .i64 m)
  p : Glob w 3 pow10Vals
theorem Env.below {w w' : World} {B : Nat} (h : Env w) (hb : Below B w w') (hB : w.heap.size ≤ B) : Env w' :=
  ⟨h.m.imp fun m hm => (hb.cell (Nat.lt_of_lt_of_le (World.block_lt_of_cell? _ _ hm) hB)).trans hm, h.p.below hb (Nat.lt_of_lt_of_le h.p.lt hB)⟩
theorem Env.tab {w : World} (h : Env w) {nm : String} (hg : Tryz.prog.globalNamed nm = some 3) : Lib.TabIs Tryz.prog w nm .u64 Lib.pow10Tab := h.p.var hg
/-- .. and what reading numbers reads besides. -/
structure EnvX (w : World) : Prop where
  e : Env w
  s : ∃ tp p, Glob w 6 #[.iface tp p]
  r : ∃ tp p, Glob w 7 #[.iface tp p]
theorem EnvX.below {w w' : World} {B : Nat} (h : EnvX w) (hb : Below B w w') (hB : w.heap.size ≤ B) : EnvX w' :=
  ⟨h.e.below hb hB, h.s.imp fun _ ⟨p, hp⟩ => ⟨p, hp.below hb (Nat.lt_of_lt_of_le hp.lt hB)⟩, h.r.imp fun _ ⟨p, hp⟩ => ⟨p, hp.below hb (Nat.lt_of_lt_of_le hp.lt hB)⟩⟩
/-- .. and holds whatever is done from block B on. -/
def EnvB (B : Nat) (w : World) : Prop := ∀ w', Below B w w' → EnvX w'
theorem EnvX.b {w : World} (h : EnvX w) : EnvB w.heap.size w := fun _ hb => h.below hb (Nat.le_refl _)
theorem EnvB.here {B : Nat} {w : World} (h : EnvB B w) : EnvX w := h w (Below.refl _ _)
theorem EnvB.on {B : Nat} {w w' : World} (h : EnvB B w) (hb : Below B w w') : EnvB B w' := fun _ h2 => h _ (hb.trans h2)
theorem EnvB.mono {B B' : Nat} {w : World} (h : EnvB B w) (hB : B ≤ B') : EnvB B' w := fun _ hb => h _ (hb.mono hB)
/-- All but block g is as it was. -/
structure Ex (g : Nat) (w w' : World) : Prop where
  b : Below g w w'
  k : ∀ k, k < w.heap.size → k ≠ g → w'.heap[k]? = w.heap[k]?
section
variable {g : Nat} {w w' w1 w2 : World}
theorem Ex.refl (g : Nat) (w : World) : Ex g w w := ⟨Below.refl _ _, fun _ _ _ => rfl⟩
theorem Ex.size (h : Ex g w w') : w.heap.size ≤ w'.heap.size := h.b.size
theorem Ex.of_below (hb : Below w.heap.size w w') (hg : g ≤ w.heap.size) : Ex g w w' := ⟨hb.mono hg, fun k hk _ => hb.block k hk⟩
theorem Ex.trans (h : Ex g w w1) (h' : Ex g w1 w2) : Ex g w w2 := ⟨h.b.trans h'.b, fun k hk hne => (h'.k k (Nat.lt_of_lt_of_le hk h.b.size) hne).trans (h.k k hk hne)⟩
theorem Ex.then (h : Ex g w w1) (hb : Below w1.heap.size w1 w2) (hg : g ≤ w.heap.size) : Ex g w w2 := h.trans (Ex.of_below hb (Nat.le_trans hg h.size))
theorem Ex.set (hg : g < w.heap.size) (i : Nat) (u : Value) : Ex g w (w.setCell ⟨g, i, none⟩ u) :=
  ⟨(Below.refl _ _).setCell (p := ⟨g, i, none⟩) (Nat.le_refl _) _, fun k _ hne => Below.heap_setCell w ⟨g, i, none⟩ u k hne⟩
theorem Blk.ex {g' : Nat} {t : TypeId} {cs : Array Value} (h : Blk w g' t cs) (d : Ex g w w') (hne : g' ≠ g) : Blk w' g' t cs := (d.k g' h.lt hne).trans h
theorem Own.ex {B : Nat} {E T : TypeId} {A : Option Addr} {n c : Nat} {us : List Value} {cs : Array Value} (h : Own w B E A n c us) (d : Ex g w w') (k : Blk w g T cs) (hne : E ≠ T) : Own w' B E A n c us := by
  have hn := h.ne_blk k hne
  refine ⟨h.1, ?_⟩
  rcases h.2 with hz | ⟨g', cap, cur, he, hB, hg, r⟩
  · exact .inl hz
  · refine .inr ⟨g', cap, cur, he, hB, (d.k g' (Array.getElem?_eq_some_iff.1 hg).1 fun e => hn ?_).trans hg, r⟩
    rw [he, ← e]; rfl
theorem Rd.ex {A : Option Addr} {n : Nat} {us : List Value} (h : Rd w A n us) (d : Ex g w w') (hA : ∀ a, A = some a → a.block < g) : Rd w' A n us :=
  ⟨h.1, fun hn => by
    obtain ⟨b, o, e, hc⟩ := h.2 hn
    exact ⟨b, o, e, fun k u hu => (d.b.cell (show b < g from hA _ e)).trans (hc k u hu)⟩⟩
theorem Rd.blk_lt {A : Option Addr} {n : Nat} {us : List Value} (h : Rd w A n us) (hn : 0 < n) : ∀ a, A = some a → a.block < w.heap.size := fun a ha => by
  obtain ⟨b, o, e, hc⟩ := h.2 hn
  rw [e] at ha
  injection ha with ha
  subst ha
  have hl : 0 < us.length := by rw [h.1]; exact hn
  exact World.block_lt_of_cell? _ _ (hc 0 us[0] (List.getElem?_eq_getElem hl))
end
theorem bs_len (l : By) : (ByteArray.mk l.toArray).size = l.length := by show l.toArray.size = _; simp
theorem cat_bs {P : Program} (w : World) (x y : By) (hx : x.length ≤ 4294967296) (hy : y.length ≤ 4294967296) : (Op.stringOp .add ⟨x.toArray⟩ ⟨y.toArray⟩).run P w = .ok (.string ⟨(x ++ y).toArray⟩) w := by
  rw [run_string_add_sum w _ _ (by rw [bs_len, bs_len]; omega), ByteArray.mk_append_mk]
end Go.Proofs.YticofgmmjecleaaGreatDoor
namespace Go.Proofs.YticofgmmjecleaaGreatDoor
open Go Go.RowKit
theorem max_of {W : World} (hsh : W.ShapedOpen Tryz.prog) : ∃ m, W.cell? ⟨0, 0, none⟩ = some (.int .i64 m) :=
  cell_of_shapedOpen_int (P := Tryz.prog) (t := 3) (zero := #[.int .i64 0]) hsh (of_decide_eq_true (by kernel_rfl)) (by kernel_rfl) rfl (by kernel_rfl) (by kernel_rfl) Tryz.underlying3
theorem pow_eq : (Rows.laid_internal_strconv_uint64pow10 : DataW Unit) = Lib.tabData .u64 Lib.pow10Tab := by kernel_rfl
theorem pow_of {nm : String} {rest : List (String × DataW Unit)} {W : World} (h : laidMet Tryz.prog ((nm, Rows.laid_internal_strconv_uint64pow10) :: rest) W) (hg : Tryz.prog.globalNamed nm = some 3) : Glob W 3 pow10Vals := by
  rw [pow_eq] at h
  exact glob_of_var (Lib.tabIs_of_head (t := 186) (e := 58) (n := 20) hg (by kernel_rfl) (by kernel_rfl) (by kernel_rfl) (by kernel_rfl) (by kernel_rfl) h) hg
theorem err_row (u : TypeId) (h : Tryz.prog.typeName? 3 u = some "*errors.errorString") : u = 214 := by
  have star : "*" ++ "errors.errorString" = "*errors.errorString" := by decide
  exact typeName_ptr_named (nm := "errors.errorString") (by rw [star]; kernel_rfl) (by kernel_rfl) (by decide) u (by rw [star]; exact h)
theorem err_of {nm : String} {text : List UInt8} {rest : List (String × DataW Unit)} {W : World} {g : Nat} (h : laidMet Tryz.prog ((nm, .iface "*errors.errorString" (.ptr (.agg [.lit (.string text)]))) :: rest) W) (hg : Tryz.prog.globalNamed nm = some g) (ht : (Tryz.prog.globals[g]?).map (·.type) = some 142) : ∃ tp p, Glob W g #[.iface tp p] := by
  obtain ⟨a, s, hv, _⟩ := laid_sentinel h hg ht Tryz.underlying142 err_row (te := 216) (ts := 9) (by kernel_rfl) Tryz.underlying216 rfl rfl (by kernel_rfl) (by kernel_rfl) (by kernel_rfl)
  exact ⟨_, _, glob_of_var hv hg⟩
theorem envX_of {n0 n1 n2 n3 n4 n5 : String} {d0 d1 d3 : DataW Unit} {r : List (String × DataW Unit)} {W : World} (hsh : W.ShapedOpen Tryz.prog)
    (hL : laidMet Tryz.prog ((n0, d0) :: (n1, d1) :: (n2, Rows.laid_internal_strconv_uint64pow10) :: (n3, d3) :: (n4, Rows.laid_strconv_ErrRange) :: (n5, Rows.laid_strconv_ErrSyntax) :: r) W)
    (h2 : Tryz.prog.globalNamed n2 = some 3) (h4 : Tryz.prog.globalNamed n4 = some 7) (h5 : Tryz.prog.globalNamed n5 = some 6) : EnvX W :=
  ⟨⟨max_of hsh, pow_of hL.tail.tail h2⟩, err_of hL.tail.tail.tail.tail.tail h5 (by kernel_rfl), err_of hL.tail.tail.tail.tail h4 (by kernel_rfl)⟩
end Go.Proofs.YticofgmmjecleaaGreatDoor
namespace Go.Proofs.YticofgmmjecleaaGreatDoor
open Go.Shelf
def lays171_ren : Go.Shelf.Ren := ⟨fun | 171 => 114 | 243 => 137 | 246 => 151 | 283 => 173 | 284 => 174 | 285 => 175 | 286 => 176 | 129 => 190 | 317 => 189 | 318 => 191 | 319 => 192 | 320 => 193 | 337 => 197 | 338 => 198 | n => n, fun | 3 => 3 | 9 => 9 | 2 => 2 | 4 => 4 | 171 => 164 | 0 => 0 | 53 => 58 | 37 => 43 | 5 => 5 | 173 => 167 | 212 => 186 | 51 => 176 | 20 => 20 | 213 => 187 | 46 => 126 | 232 => 204 | 233 => 205 | n => n, fun | 17 => 3 | 18 => 4 | 19 => 5 | n => n⟩
theorem lays171 : Go.Proofs.Lays.n171 Tryz.prog lays171_ren := {
  mixed := by kernel_rfl
  f129 := Tryz.func190.trans (congrArg some (by kernel_rfl))
  f171 := Tryz.func114.trans (congrArg some (by kernel_rfl))
  f243 := Tryz.func137.trans (congrArg some (by kernel_rfl))
  f246 := Tryz.func151.trans (congrArg some (by kernel_rfl))
  f283 := Tryz.func173.trans (congrArg some (by kernel_rfl))
  f284 := Tryz.func174.trans (congrArg some (by kernel_rfl))
  f285 := Tryz.func175.trans (congrArg some (by kernel_rfl))
  f286 := Tryz.func176.trans (congrArg some (by kernel_rfl))
  f317 := Tryz.func189.trans (congrArg some (by kernel_rfl))
  f318 := Tryz.func191.trans (congrArg some (by kernel_rfl))
  f319 := Tryz.func192.trans (congrArg some (by kernel_rfl))
  f320 := Tryz.func193.trans (congrArg some (by kernel_rfl))
  f337 := Tryz.func197.trans (congrArg some (by kernel_rfl))
  f338 := Tryz.func198.trans (congrArg some (by kernel_rfl))
  t0 := Tryz.underlying0
  a0 := Tryz.isAgg0
  z0 := Tryz.sizeOf0
  v0 := Tryz.zeroValue0
  t2 := Tryz.underlying2
  a2 := Tryz.isAgg2
  z2 := Tryz.sizeOf2
  v2 := Tryz.zeroValue2
  t3 := Tryz.underlying3
  a3 := Tryz.isAgg3
  z3 := Tryz.sizeOf3
  v3 := Tryz.zeroValue3
  t4 := Tryz.underlying4
  a4 := Tryz.isAgg4
  z4 := Tryz.sizeOf4
  v4 := Tryz.zeroValue4
  t5 := Tryz.underlying5
  a5 := Tryz.isAgg5
  z5 := Tryz.sizeOf5
  v5 := Tryz.zeroValue5
  t9 := Tryz.underlying9
  a9 := Tryz.isAgg9
  z9 := Tryz.sizeOf9
  v9 := Tryz.zeroValue9
  t20 := Tryz.underlying20
  a20 := Tryz.isAgg20
  z20 := Tryz.sizeOf20
  v20 := Tryz.zeroValue20
  t37 := Tryz.underlying43
  a37 := Tryz.isAgg43
  z37 := Tryz.sizeOf43
  v37 := Tryz.zeroValue43
  t46 := Tryz.underlying126
  a46 := Tryz.isAgg126
  z46 := Tryz.sizeOf126
  v46 := Tryz.zeroValue126
  t51 := Tryz.underlying176
  a51 := Tryz.isAgg176
  z51 := Tryz.sizeOf176
  v51 := Tryz.zeroValue176
  t53 := Tryz.underlying58
  a53 := Tryz.isAgg58
  z53 := Tryz.sizeOf58
  v53 := Tryz.zeroValue58
  t171 := Tryz.underlying164
  a171 := Tryz.isAgg164
  z171 := Tryz.sizeOf164
  v171 := Tryz.zeroValue164
  t173 := Tryz.underlying167
  a173 := Tryz.isAgg167
  z173 := Tryz.sizeOf167
  v173 := Tryz.zeroValue167
  t212 := Tryz.underlying186
  a212 := Tryz.isAgg186
  z212 := Tryz.sizeOf186
  v212 := Tryz.zeroValue186
  t213 := Tryz.underlying187
  a213 := Tryz.isAgg187
  z213 := Tryz.sizeOf187
  t232 := Tryz.underlying204
  a232 := Tryz.isAgg204
  z232 := Tryz.sizeOf204
  v232 := Tryz.zeroValue204
  t233 := Tryz.underlying205
  a233 := Tryz.isAgg205
  z233 := Tryz.sizeOf205
  v233 := Tryz.zeroValue205
  g17 := by kernel_rfl
  g18 := by kernel_rfl
  g19 := by kernel_rfl }
def laysM173_ren : Go.Shelf.Ren := ⟨fun | 173 => 124 | 246 => 151 | 283 => 173 | 284 => 174 | 285 => 175 | 286 => 176 | 129 => 190 | 317 => 189 | 318 => 191 | 319 => 192 | 320 => 193 | 337 => 197 | 338 => 198 | n => n, fun | 2 => 2 | 3 => 3 | 9 => 9 | 4 => 4 | 171 => 164 | 0 => 0 | 53 => 58 | 37 => 43 | 5 => 5 | 173 => 167 | 212 => 186 | 51 => 176 | 20 => 20 | 213 => 187 | 46 => 126 | 232 => 204 | 233 => 205 | n => n, fun | 17 => 3 | 18 => 4 | 19 => 5 | n => n⟩
theorem laysM173 : Go.Proofs.LaysM.n173 Tryz.prog laysM173_ren := {
  mixed := by kernel_rfl
  f129 := Tryz.func190.trans (congrArg some (by kernel_rfl))
  f173 := Tryz.func124.trans (congrArg some (by kernel_rfl))
  f246 := Tryz.func151.trans (congrArg some (by kernel_rfl))
  f283 := Tryz.func173.trans (congrArg some (by kernel_rfl))
  f284 := Tryz.func174.trans (congrArg some (by kernel_rfl))
  f285 := Tryz.func175.trans (congrArg some (by kernel_rfl))
  f286 := Tryz.func176.trans (congrArg some (by kernel_rfl))
  f317 := Tryz.func189.trans (congrArg some (by kernel_rfl))
  f318 := Tryz.func191.trans (congrArg some (by kernel_rfl))
  f319 := Tryz.func192.trans (congrArg some (by kernel_rfl))
  f320 := Tryz.func193.trans (congrArg some (by kernel_rfl))
  f337 := Tryz.func197.trans (congrArg some (by kernel_rfl))
  f338 := Tryz.func198.trans (congrArg some (by kernel_rfl))
  t0 := Tryz.underlying0
  a0 := Tryz.isAgg0
  z0 := Tryz.sizeOf0
  v0 := Tryz.zeroValue0
  t2 := Tryz.underlying2
  a2 := Tryz.isAgg2
  z2 := Tryz.sizeOf2
  v2 := Tryz.zeroValue2
  t3 := Tryz.underlying3
  a3 := Tryz.isAgg3
  z3 := Tryz.sizeOf3
  v3 := Tryz.zeroValue3
  t4 := Tryz.underlying4
  a4 := Tryz.isAgg4
  z4 := Tryz.sizeOf4
  v4 := Tryz.zeroValue4
  t5 := Tryz.underlying5
  a5 := Tryz.isAgg5
  z5 := Tryz.sizeOf5
  v5 := Tryz.zeroValue5
  t9 := Tryz.underlying9
  a9 := Tryz.isAgg9
  z9 := Tryz.sizeOf9
  v9 := Tryz.zeroValue9
  t20 := Tryz.underlying20
  a20 := Tryz.isAgg20
  z20 := Tryz.sizeOf20
  v20 := Tryz.zeroValue20
  t37 := Tryz.underlying43
  a37 := Tryz.isAgg43
  z37 := Tryz.sizeOf43
  v37 := Tryz.zeroValue43
  t46 := Tryz.underlying126
  a46 := Tryz.isAgg126
  z46 := Tryz.sizeOf126
  v46 := Tryz.zeroValue126
  t51 := Tryz.underlying176
  a51 := Tryz.isAgg176
  z51 := Tryz.sizeOf176
  v51 := Tryz.zeroValue176
  t53 := Tryz.underlying58
  a53 := Tryz.isAgg58
  z53 := Tryz.sizeOf58
  v53 := Tryz.zeroValue58
  t171 := Tryz.underlying164
  a171 := Tryz.isAgg164
  z171 := Tryz.sizeOf164
  v171 := Tryz.zeroValue164
  t173 := Tryz.underlying167
  a173 := Tryz.isAgg167
  z173 := Tryz.sizeOf167
  v173 := Tryz.zeroValue167
  t212 := Tryz.underlying186
  a212 := Tryz.isAgg186
  z212 := Tryz.sizeOf186
  v212 := Tryz.zeroValue186
  t213 := Tryz.underlying187
  a213 := Tryz.isAgg187
  z213 := Tryz.sizeOf187
  t232 := Tryz.underlying204
  a232 := Tryz.isAgg204
  z232 := Tryz.sizeOf204
  v232 := Tryz.zeroValue204
  t233 := Tryz.underlying205
  a233 := Tryz.isAgg205
  z233 := Tryz.sizeOf205
  v233 := Tryz.zeroValue205
  g17 := by kernel_rfl
  g18 := by kernel_rfl
  g19 := by kernel_rfl
  i0 := by kernel_rfl
  i2 := by kernel_rfl
  i3 := by kernel_rfl
  i4 := by kernel_rfl
  i5 := by kernel_rfl
  i9 := by kernel_rfl
  i20 := by kernel_rfl
  i37 := by kernel_rfl
  i46 := by kernel_rfl
  i51 := by kernel_rfl
  i53 := by kernel_rfl
  i171 := by kernel_rfl
  i173 := by kernel_rfl
  i212 := by kernel_rfl
  i232 := by kernel_rfl
  i233 := by kernel_rfl
  m17 := by kernel_rfl
  m18 := by kernel_rfl
  m19 := by kernel_rfl }
def lays144_ren : Go.Shelf.Ren := ⟨fun | 144 => 150 | 143 => 128 | 219 => 133 | 217 => 157 | 225 => 158 | 224 => 159 | 267 => 160 | 266 => 179 | 314 => 180 | n => n, fun | 9 => 9 | 4 => 4 | 3 => 3 | 5 => 5 | 46 => 126 | 146 => 177 | 51 => 176 | n => n, fun | 1 => 0 | n => n⟩
theorem lays144 : Go.Proofs.Lays.n144 Tryz.prog lays144_ren := {
  mixed := by kernel_rfl
  f143 := Tryz.func128.trans (congrArg some (by kernel_rfl))
  f144 := Tryz.func150.trans (congrArg some (by kernel_rfl))
  f217 := Tryz.func157.trans (congrArg some (by kernel_rfl))
  f219 := Tryz.func133.trans (congrArg some (by kernel_rfl))
  f224 := Tryz.func159.trans (congrArg some (by kernel_rfl))
  f225 := Tryz.func158.trans (congrArg some (by kernel_rfl))
  f266 := Tryz.func179.trans (congrArg some (by kernel_rfl))
  f267 := Tryz.func160.trans (congrArg some (by kernel_rfl))
  f314 := Tryz.func180.trans (congrArg some (by kernel_rfl))
  t3 := Tryz.underlying3
  a3 := Tryz.isAgg3
  z3 := Tryz.sizeOf3
  v3 := Tryz.zeroValue3
  t4 := Tryz.underlying4
  a4 := Tryz.isAgg4
  z4 := Tryz.sizeOf4
  v4 := Tryz.zeroValue4
  t5 := Tryz.underlying5
  a5 := Tryz.isAgg5
  z5 := Tryz.sizeOf5
  v5 := Tryz.zeroValue5
  t9 := Tryz.underlying9
  a9 := Tryz.isAgg9
  z9 := Tryz.sizeOf9
  v9 := Tryz.zeroValue9
  t46 := Tryz.underlying126
  a46 := Tryz.isAgg126
  z46 := Tryz.sizeOf126
  v46 := Tryz.zeroValue126
  t51 := Tryz.underlying176
  a51 := Tryz.isAgg176
  z51 := Tryz.sizeOf176
  v51 := Tryz.zeroValue176
  t146 := Tryz.underlying177
  a146 := Tryz.isAgg177
  z146 := Tryz.sizeOf177
  v146 := Tryz.zeroValue177
  g1 := by kernel_rfl }
def lays161_ren : Go.Shelf.Ren := ⟨fun | 161 => 194 | 231 => 199 | 227 => 200 | 233 => 201 | 235 => 202 | 228 => 208 | 197 => 131 | 151 => 209 | 260 => 156 | 152 => 214 | 137 => 215 | 119 => 216 | 224 => 159 | 225 => 158 | 217 => 157 | 266 => 179 | n => n, fun | 9 => 9 | 4 => 4 | 3 => 3 | 5 => 5 | 117 => 194 | 116 => 193 | 0 => 0 | 124 => 197 | 105 => 145 | 21 => 21 | 119 => 172 | 46 => 126 | 139 => 175 | 138 => 174 | n => n, fun | 3 => 1 | 4 => 2 | n => n⟩
theorem lays161 : Go.Proofs.Lays.n161 Tryz.prog lays161_ren := {
  mixed := by kernel_rfl
  f119 := Tryz.func216.trans (congrArg some (by kernel_rfl))
  f137 := Tryz.func215.trans (congrArg some (by kernel_rfl))
  f151 := Tryz.func209.trans (congrArg some (by kernel_rfl))
  f152 := Tryz.func214.trans (congrArg some (by kernel_rfl))
  f161 := Tryz.func194.trans (congrArg some (by kernel_rfl))
  f197 := Tryz.func131.trans (congrArg some (by kernel_rfl))
  f217 := Tryz.func157.trans (congrArg some (by kernel_rfl))
  f224 := Tryz.func159.trans (congrArg some (by kernel_rfl))
  f225 := Tryz.func158.trans (congrArg some (by kernel_rfl))
  f227 := Tryz.func200.trans (congrArg some (by kernel_rfl))
  f228 := Tryz.func208.trans (congrArg some (by kernel_rfl))
  f231 := Tryz.func199.trans (congrArg some (by kernel_rfl))
  f233 := Tryz.func201.trans (congrArg some (by kernel_rfl))
  f235 := Tryz.func202.trans (congrArg some (by kernel_rfl))
  f260 := Tryz.func156.trans (congrArg some (by kernel_rfl))
  f266 := Tryz.func179.trans (congrArg some (by kernel_rfl))
  t0 := Tryz.underlying0
  a0 := Tryz.isAgg0
  z0 := Tryz.sizeOf0
  v0 := Tryz.zeroValue0
  t3 := Tryz.underlying3
  a3 := Tryz.isAgg3
  z3 := Tryz.sizeOf3
  v3 := Tryz.zeroValue3
  t4 := Tryz.underlying4
  a4 := Tryz.isAgg4
  z4 := Tryz.sizeOf4
  v4 := Tryz.zeroValue4
  t5 := Tryz.underlying5
  a5 := Tryz.isAgg5
  z5 := Tryz.sizeOf5
  v5 := Tryz.zeroValue5
  t9 := Tryz.underlying9
  a9 := Tryz.isAgg9
  z9 := Tryz.sizeOf9
  v9 := Tryz.zeroValue9
  t21 := Tryz.underlying21
  a21 := Tryz.isAgg21
  z21 := Tryz.sizeOf21
  v21 := Tryz.zeroValue21
  t46 := Tryz.underlying126
  a46 := Tryz.isAgg126
  z46 := Tryz.sizeOf126
  v46 := Tryz.zeroValue126
  t105 := Tryz.underlying145
  a105 := Tryz.isAgg145
  z105 := Tryz.sizeOf145
  v105 := Tryz.zeroValue145
  t116 := Tryz.underlying193
  a116 := Tryz.isAgg193
  z116 := Tryz.sizeOf193
  t117 := Tryz.underlying194
  a117 := Tryz.isAgg194
  z117 := Tryz.sizeOf194
  v117 := Tryz.zeroValue194
  t119 := Tryz.underlying172
  a119 := Tryz.isAgg172
  z119 := Tryz.sizeOf172
  t124 := Tryz.underlying197
  a124 := Tryz.isAgg197
  z124 := Tryz.sizeOf197
  v124 := Tryz.zeroValue197
  t138 := Tryz.underlying174
  a138 := Tryz.isAgg174
  z138 := Tryz.sizeOf174
  v138 := Tryz.zeroValue174
  t139 := Tryz.underlying175
  a139 := Tryz.isAgg175
  z139 := Tryz.sizeOf175
  v139 := Tryz.zeroValue175
  g3 := by kernel_rfl
  g4 := by kernel_rfl }
def laysC174_ren : Go.Shelf.Ren := ⟨fun | 174 => 188 | 247 => 195 | 245 => 196 | 287 => 203 | 279 => 204 | 280 => 205 | 281 => 206 | 282 => 207 | 321 => 210 | 322 => 211 | 316 => 212 | 171 => 114 | 205 => 213 | 243 => 137 | 246 => 151 | 283 => 173 | 284 => 174 | 285 => 175 | 286 => 176 | 129 => 190 | 317 => 189 | 318 => 191 | 319 => 192 | 320 => 193 | 337 => 197 | 338 => 198 | n => n, fun | 9 => 9 | 3 => 3 | 2 => 2 | 75 => 142 | 85 => 183 | 4 => 4 | 167 => 198 | 5 => 5 | 53 => 58 | 175 => 199 | 46 => 126 | 168 => 201 | 37 => 43 | 0 => 0 | 210 => 211 | 21 => 21 | 127 => 156 | 145 => 216 | 143 => 214 | 171 => 164 | 173 => 167 | 212 => 186 | 51 => 176 | 20 => 20 | 213 => 187 | 232 => 204 | 233 => 205 | 80 => 147 | n => n, fun | 15 => 6 | 16 => 7 | 17 => 3 | 18 => 4 | 19 => 5 | n => n⟩
theorem laysC174 : Go.Proofs.LaysC.n174 Tryz.prog laysC174_ren := {
  mixed := by kernel_rfl
  f129 := Tryz.func190.trans (congrArg some (by kernel_rfl))
  f171 := Tryz.func114.trans (congrArg some (by kernel_rfl))
  f174 := Tryz.func188.trans (congrArg some (by kernel_rfl))
  f205 := Tryz.func213.trans (congrArg some (by kernel_rfl))
  f243 := Tryz.func137.trans (congrArg some (by kernel_rfl))
  f245 := Tryz.func196.trans (congrArg some (by kernel_rfl))
  f246 := Tryz.func151.trans (congrArg some (by kernel_rfl))
  f247 := Tryz.func195.trans (congrArg some (by kernel_rfl))
  f279 := Tryz.func204.trans (congrArg some (by kernel_rfl))
  f280 := Tryz.func205.trans (congrArg some (by kernel_rfl))
  f281 := Tryz.func206.trans (congrArg some (by kernel_rfl))
  f282 := Tryz.func207.trans (congrArg some (by kernel_rfl))
  f283 := Tryz.func173.trans (congrArg some (by kernel_rfl))
  f284 := Tryz.func174.trans (congrArg some (by kernel_rfl))
  f285 := Tryz.func175.trans (congrArg some (by kernel_rfl))
  f286 := Tryz.func176.trans (congrArg some (by kernel_rfl))
  f287 := Tryz.func203.trans (congrArg some (by kernel_rfl))
  f316 := Tryz.func212.trans (congrArg some (by kernel_rfl))
  f317 := Tryz.func189.trans (congrArg some (by kernel_rfl))
  f318 := Tryz.func191.trans (congrArg some (by kernel_rfl))
  f319 := Tryz.func192.trans (congrArg some (by kernel_rfl))
  f320 := Tryz.func193.trans (congrArg some (by kernel_rfl))
  f321 := Tryz.func210.trans (congrArg some (by kernel_rfl))
  f322 := Tryz.func211.trans (congrArg some (by kernel_rfl))
  f337 := Tryz.func197.trans (congrArg some (by kernel_rfl))
  f338 := Tryz.func198.trans (congrArg some (by kernel_rfl))
  t0 := Tryz.underlying0
  a0 := Tryz.isAgg0
  z0 := Tryz.sizeOf0
  v0 := Tryz.zeroValue0
  t2 := Tryz.underlying2
  a2 := Tryz.isAgg2
  z2 := Tryz.sizeOf2
  v2 := Tryz.zeroValue2
  t3 := Tryz.underlying3
  a3 := Tryz.isAgg3
  z3 := Tryz.sizeOf3
  v3 := Tryz.zeroValue3
  t4 := Tryz.underlying4
  a4 := Tryz.isAgg4
  z4 := Tryz.sizeOf4
  v4 := Tryz.zeroValue4
  t5 := Tryz.underlying5
  a5 := Tryz.isAgg5
  z5 := Tryz.sizeOf5
  v5 := Tryz.zeroValue5
  t9 := Tryz.underlying9
  a9 := Tryz.isAgg9
  z9 := Tryz.sizeOf9
  v9 := Tryz.zeroValue9
  t20 := Tryz.underlying20
  a20 := Tryz.isAgg20
  z20 := Tryz.sizeOf20
  v20 := Tryz.zeroValue20
  t21 := Tryz.underlying21
  a21 := Tryz.isAgg21
  z21 := Tryz.sizeOf21
  v21 := Tryz.zeroValue21
  t37 := Tryz.underlying43
  a37 := Tryz.isAgg43
  z37 := Tryz.sizeOf43
  v37 := Tryz.zeroValue43
  t46 := Tryz.underlying126
  a46 := Tryz.isAgg126
  z46 := Tryz.sizeOf126
  v46 := Tryz.zeroValue126
  t51 := Tryz.underlying176
  a51 := Tryz.isAgg176
  z51 := Tryz.sizeOf176
  v51 := Tryz.zeroValue176
  t53 := Tryz.underlying58
  a53 := Tryz.isAgg58
  z53 := Tryz.sizeOf58
  v53 := Tryz.zeroValue58
  t75 := Tryz.underlying142
  a75 := Tryz.isAgg142
  z75 := Tryz.sizeOf142
  v75 := Tryz.zeroValue142
  t85 := Tryz.underlying183
  a85 := Tryz.isAgg183
  z85 := Tryz.sizeOf183
  v85 := Tryz.zeroValue183
  t127 := Tryz.underlying156
  a127 := Tryz.isAgg156
  z127 := Tryz.sizeOf156
  v127 := Tryz.zeroValue156
  t143 := Tryz.underlying214
  a143 := Tryz.isAgg214
  z143 := Tryz.sizeOf214
  v143 := Tryz.zeroValue214
  t145 := Tryz.underlying216
  a145 := Tryz.isAgg216
  z145 := Tryz.sizeOf216
  v145 := Tryz.zeroValue216
  t167 := Tryz.underlying198
  a167 := Tryz.isAgg198
  z167 := Tryz.sizeOf198
  v167 := Tryz.zeroValue198
  t168 := Tryz.underlying201
  a168 := Tryz.isAgg201
  z168 := Tryz.sizeOf201
  v168 := Tryz.zeroValue201
  t171 := Tryz.underlying164
  a171 := Tryz.isAgg164
  z171 := Tryz.sizeOf164
  v171 := Tryz.zeroValue164
  t173 := Tryz.underlying167
  a173 := Tryz.isAgg167
  z173 := Tryz.sizeOf167
  v173 := Tryz.zeroValue167
  t175 := Tryz.underlying199
  a175 := Tryz.isAgg199
  z175 := Tryz.sizeOf199
  v175 := Tryz.zeroValue199
  t210 := Tryz.underlying211
  a210 := Tryz.isAgg211
  z210 := Tryz.sizeOf211
  v210 := Tryz.zeroValue211
  t212 := Tryz.underlying186
  a212 := Tryz.isAgg186
  z212 := Tryz.sizeOf186
  v212 := Tryz.zeroValue186
  t213 := Tryz.underlying187
  a213 := Tryz.isAgg187
  z213 := Tryz.sizeOf187
  t232 := Tryz.underlying204
  a232 := Tryz.isAgg204
  z232 := Tryz.sizeOf204
  v232 := Tryz.zeroValue204
  t233 := Tryz.underlying205
  a233 := Tryz.isAgg205
  z233 := Tryz.sizeOf205
  v233 := Tryz.zeroValue205
  g15 := by kernel_rfl
  g16 := by kernel_rfl
  g17 := by kernel_rfl
  g18 := by kernel_rfl
  g19 := by kernel_rfl
  t80 := Tryz.underlying147
  a80 := Tryz.isAgg147
  z80 := Tryz.sizeOf147
  v80 := Tryz.zeroValue147
  i0 := by kernel_rfl
  i2 := by kernel_rfl
  i3 := by kernel_rfl
  i4 := by kernel_rfl
  i5 := by kernel_rfl
  i9 := by kernel_rfl
  i20 := by kernel_rfl
  i21 := by kernel_rfl
  i37 := by kernel_rfl
  i46 := by kernel_rfl
  i51 := by kernel_rfl
  i53 := by kernel_rfl
  i75 := by kernel_rfl
  i80 := by kernel_rfl
  i85 := by kernel_rfl
  i127 := by kernel_rfl
  i143 := by kernel_rfl
  i145 := by kernel_rfl
  i167 := by kernel_rfl
  i168 := by kernel_rfl
  i171 := by kernel_rfl
  i173 := by kernel_rfl
  i175 := by kernel_rfl
  i210 := by kernel_rfl
  i212 := by kernel_rfl
  i232 := by kernel_rfl
  i233 := by kernel_rfl
  m15 := by kernel_rfl
  m16 := by kernel_rfl
  m17 := by kernel_rfl
  m18 := by kernel_rfl
  m19 := by kernel_rfl
  c0 := by kernel_rfl
  c2 := by kernel_rfl
  c3 := by kernel_rfl
  c4 := by kernel_rfl
  c5 := by kernel_rfl
  c9 := by kernel_rfl
  c20 := by kernel_rfl
  c21 := by kernel_rfl
  c37 := by kernel_rfl
  c46 := by kernel_rfl
  c51 := by kernel_rfl
  c53 := by kernel_rfl
  c75 := by kernel_rfl
  c80 := by kernel_rfl
  c85 := by kernel_rfl
  c127 := by kernel_rfl
  c143 := by kernel_rfl
  c145 := by kernel_rfl
  c167 := by kernel_rfl
  c168 := by kernel_rfl
  c171 := by kernel_rfl
  c173 := by kernel_rfl
  c175 := by kernel_rfl
  c210 := by kernel_rfl
  c212 := by kernel_rfl
  c213 := by kernel_rfl
  c232 := by kernel_rfl
  c233 := by kernel_rfl }
end Go.Proofs.YticofgmmjecleaaGreatDoor
namespace Go.Proofs.YticofgmmjecleaaGreatDoor
open Go
theorem index_one_nil (c : UInt8) : Lib.index [] [c] = -1 := rfl
theorem index_one_eq (c : UInt8) (l : By) : Lib.index (c :: l) [c] = 0 := by
  unfold Lib.index
  simp [List.isPrefixOf]
theorem index_one_ne {b c : UInt8} (h : b ≠ c) (l : By) : Lib.index (b :: l) [c] = if Lib.index l [c] = -1 then -1 else Lib.index l [c] + 1 := by
  conv => lhs; unfold Lib.index
  have : (c == b) = false := by simpa using fun e => h e.symm
  simp [List.isPrefixOf, this]
end Go.Proofs.YticofgmmjecleaaGreatDoor
namespace Go.Proofs.YticofgmmjecleaaGreatDoor
open Go
/-- All bytes are digits. -/
def allD (w : By) : Prop := ∀ b ∈ w, 48 ≤ b.toNat ∧ b.toNat ≤ 57
theorem decs_iff (b : UInt8) : decs.contains b = true ↔ 48 ≤ b.toNat ∧ b.toNat ≤ 57 := by
  have : ∀ n : Fin 256, (decs.contains (UInt8.ofNat n.val) = true ↔ 48 ≤ n.val ∧ n.val ≤ 57) := by decide +kernel
  have h := this ⟨b.toNat, b.toNat_lt⟩
  simpa using h
theorem digL_all : ∀ t : By, allD (digL t)
  | [] => fun b hb => by simp [digL] at hb
  | c :: r => fun b hb => by
    unfold digL at hb
    rw [List.takeWhile_cons] at hb
    split at hb
    · rename_i hc
      rcases List.mem_cons.1 hb with e | h
      · rw [e]; exact (decs_iff c).1 hc
      · exact digL_all r b h
    · simp at hb
def spl (a : Nat) (t : By) : Nat := t.foldl (fun a c => a * 10 + (c.toNat - 48)) a
theorem spl_snoc (a : Nat) (t : By) (c : UInt8) : spl a (t ++ [c]) = spl a t * 10 + (c.toNat - 48) := by unfold spl; rw [List.foldl_append]; rfl
theorem spl_lt : ∀ (t : By) (a k : Nat), allD t → a < 10 ^ k → spl a t < 10 ^ (k + t.length)
  | [], a, k, _, h => h
  | c :: r, a, k, hd, h => by
    have hc := hd c (List.mem_cons_self ..)
    have := spl_lt r (a * 10 + (c.toNat - 48)) (k + 1) (fun b hb => hd b (List.mem_cons_of_mem _ hb)) (by rw [Nat.pow_succ]; omega)
    rw [List.length_cons, show k + (r.length + 1) = k + 1 + r.length by omega]
    exact this
theorem parseM_spl : ∀ (t : By) (a k : Nat), allD t → a < 10 ^ k → k + t.length ≤ 9 → Lib.parseUintM 18446744073709551615 a t = .ok (spl a t)
  | [], a, k, _, _, _ => rfl
  | c :: r, a, k, hd, h, hl => by
    have hc := hd c (List.mem_cons_self ..)
    rw [List.length_cons] at hl
    have h9 : 10 ^ k ≤ 10 ^ 8 := Nat.pow_le_pow_right (by decide) (by omega)
    have e8 : (10 : Nat) ^ 8 = 100000000 := by decide
    simp only [Lib.parseUintM]
    rw [if_pos hc, if_neg (by omega), if_neg (by omega)]
    exact parseM_spl r _ (k + 1) (fun b hb => hd b (List.mem_cons_of_mem _ hb)) (by rw [Nat.pow_succ]; omega) (by omega)
theorem parseM_not : ∀ (t : By) (a : Nat), allD t → Lib.parseUintM 18446744073709551615 a t ≠ .syntax
  | [], a, _ => by simp [Lib.parseUintM]
  | c :: r, a, hd => by
    have hc := hd c (List.mem_cons_self ..)
    simp only [Lib.parseUintM]
    rw [if_pos hc]
    split
    · simp
    · split
      · simp
      · exact parseM_not r _ (fun b hb => hd b (List.mem_cons_of_mem _ hb))
theorem parse_short {w : By} (hd : allD w) (h0 : w ≠ []) (h9 : w.length ≤ 9) : Lib.parseIntB 64 w = .ok ((spell w : Nat) : Int) := by
  cases w with
  | nil => exact absurd rfl h0
  | cons c r =>
    have hc := hd c (List.mem_cons_self ..)
    rw [Lib.parseIntB_plain 64 c r (by omega) (by omega)]
    have e : Lib.parseUintB 64 (c :: r) = .ok (spell (c :: r)) := by
      unfold Lib.parseUintB
      rw [if_neg (by simp)]
      exact parseM_spl (c :: r) 0 0 hd (by decide) (by omega)
    have hlt : spell (c :: r) < 10 ^ 9 := by
      have := spl_lt (c :: r) 0 0 hd (by decide)
      rw [Nat.zero_add] at this
      exact Nat.lt_of_lt_of_le this (Nat.pow_le_pow_right (by decide) h9)
    have e9 : (10 : Nat) ^ 9 = 1000000000 := by decide
    have e63 : (2 : Nat) ^ (64 - 1) = 9223372036854775808 := by decide
    rw [e]
    simp only [Lib.signlessC]
    rw [if_neg (by rw [e63]; omega)]
theorem parse_syntax {w : By} (hd : allD w) (h : Lib.parseIntB 64 w = .syntax) : w = [] := by
  cases w with
  | nil => rfl
  | cons c r =>
    exfalso
    have hc := hd c (List.mem_cons_self ..)
    rw [Lib.parseIntB_plain 64 c r (by omega) (by omega)] at h
    have e : Lib.parseUintB 64 (c :: r) ≠ .syntax := by
      unfold Lib.parseUintB
      rw [if_neg (by simp)]
      exact parseM_not (c :: r) 0 hd
    cases hu : Lib.parseUintB 64 (c :: r) with
    | «syntax» => exact e hu
    | range => rw [hu] at h; simp [Lib.signlessC] at h
    | ok u => rw [hu] at h; simp only [Lib.signlessC] at h; split at h <;> cases h
theorem dec_head (u : Nat) : ∃ c r, Lib.decDigits u = c :: r ∧ (u ≠ 0 → c ≠ 48) := by
  induction u using Nat.strongRecOn with
  | ind u ih =>
    rw [Lib.decDigits]
    by_cases h : u < 10
    · rw [dif_pos h]
      refine ⟨_, _, rfl, fun h0 e => ?_⟩
      have := congrArg UInt8.toNat e
      rw [UInt8.toNat_ofNat'] at this
      have e48 : (48 : UInt8).toNat = 48 := rfl
      omega
    · rw [dif_neg h]
      obtain ⟨c, r, e, h1⟩ := ih (u / 10) (by omega)
      rw [e]
      exact ⟨c, r ++ _, rfl, fun _ => h1 (by omega)⟩
theorem dec_spell : ∀ (n : Nat) (w : By), w.length = n → allD w → w ≠ [] → ¬ (1 < w.length ∧ w.head? = some 48) → Lib.decDigits (spell w) = w
  | n, w, hn, hd, h0, hz => by
    obtain ⟨v, d, rfl⟩ : ∃ v d, w = v ++ [d] := ⟨w.dropLast, w.getLast h0, (List.dropLast_concat_getLast h0).symm⟩
    have hdd := hd d (by simp)
    have hs : spell (v ++ [d]) = spell v * 10 + (d.toNat - 48) := spl_snoc 0 v d
    have ed : UInt8.ofNat (48 + (d.toNat - 48)) = d := by rw [show 48 + (d.toNat - 48) = d.toNat by omega]; simp
    rw [hs, Lib.decDigits]
    cases v with
    | nil =>
      have e0 : spell ([] : By) = 0 := rfl
      rw [e0, Nat.zero_mul, Nat.zero_add, dif_pos (by omega), ed]
      rfl
    | cons c r =>
      have hl : (c :: r ++ [d]).length = r.length + 2 := by simp
      have hc48 : c ≠ 48 := fun e => hz ⟨by rw [hl]; omega, by rw [e]; rfl⟩
      have hcd := hd c (by simp)
      have ih := dec_spell (r.length + 1) (c :: r) (by simp) (fun b hb => hd b (List.mem_append_left _ hb)) (by simp) (fun hx => hc48 (by simpa using hx.2))
      have hpos : spell (c :: r) ≠ 0 := fun e => by
        rw [e] at ih
        have : Lib.decDigits 0 = [48] := by rw [Lib.decDigits, dif_pos (by decide)]; rfl
        rw [this] at ih
        injection ih with e1 _
        exact hc48 e1.symm
      rw [dif_neg (by omega), show (spell (c :: r) * 10 + (d.toNat - 48)) / 10 = spell (c :: r) by omega, show (spell (c :: r) * 10 + (d.toNat - 48)) % 10 = d.toNat - 48 by omega, ih, ed]
termination_by n => n
decreasing_by simp at hn; omega
theorem itoa_nat (u : Nat) : Lib.itoa (u : Int) = Lib.decDigits u := by unfold Lib.itoa; rw [if_neg (by omega)]; rfl
/-- What ParseInt says of digits. -/
theorem num_bad {w : By} (hd : allD w) (h : Lib.parseIntB 64 w = .syntax ∨ Lib.parseIntB 64 w = .range) : numF w = none := by
  unfold numF
  rcases h with h | h
  · rw [if_pos (Or.inl (parse_syntax hd h))]
  · by_cases h0 : w = []
    · rw [if_pos (Or.inl h0)]
    · by_cases h9 : w.length ≤ 9
      · rw [parse_short hd h0 h9] at h; cases h
      · rw [if_pos (Or.inr (Or.inl (by omega)))]
theorem num_ok {w : By} (hd : allD w) {v : Int} (h : Lib.parseIntB 64 w = .ok v) (h9 : w.length ≤ 9) : (0 ≤ v ∧ v < 1000000000) ∧ ((Lib.itoa v = w ∧ numF w = some v.toNat) ∨ (Lib.itoa v ≠ w ∧ numF w = none)) := by
  have h0 : w ≠ [] := fun e => by subst e; cases h
  rw [parse_short hd h0 h9] at h
  injection h with h
  subst h
  rw [itoa_nat]
  have hlt : spell w < 1000000000 := by
    have := spl_lt w 0 0 hd (by decide)
    rw [Nat.zero_add] at this
    exact Nat.lt_of_lt_of_le this (Nat.pow_le_pow_right (n := 10) (by decide) h9)
  refine ⟨by omega, ?_⟩
  unfold numF
  by_cases hz : 1 < w.length ∧ w.head? = some 48
  · right
    rw [if_pos (Or.inr (Or.inr hz))]
    refine ⟨fun e => ?_, rfl⟩
    obtain ⟨c, r, e1, e2⟩ := dec_head (spell w)
    by_cases hs : spell w = 0
    · have : Lib.decDigits 0 = [48] := by rw [Lib.decDigits, dif_pos (by decide)]; rfl
      rw [hs, this] at e
      rw [← e] at hz
      exact absurd hz.1 (by decide)
    · rw [← e, e1] at hz
      exact e2 hs (by simpa using hz.2)
  · left
    rw [if_neg (fun h => h.elim h0 (fun h => h.elim (by omega) hz))]
    exact ⟨dec_spell _ w rfl hd h0 hz, rfl⟩
theorem num_long {w : By} (h9 : 9 < w.length) : numF w = none := by unfold numF; rw [if_pos (Or.inr (Or.inl h9))]
/-- What the reference's l01Value says. -/
def valV (w : By) : Int := match numF w with
  | some k => (k : Int)
  | none => -1
theorem spell_take {w : By} {k : Nat} (hk : k < w.length) : spell (w.take (k + 1)) = spell (w.take k) * 10 + ((w[k]).toNat - 48) := by
  rw [List.take_succ_eq_append_getElem hk]
  exact spl_snoc 0 _ _
end Go.Proofs.YticofgmmjecleaaGreatDoor
namespace Go.Proofs.YticofgmmjecleaaGreatDoor
open Go Go.RowKit
theorem Itoa_d (i : Nat) (hi : i < 10) (w : World) : Calls Tryz.prog 114 #[.int .i64 i] w fun e w' => e = .returned (.string ⟨[UInt8.ofNat (48 + i)].toArray⟩) ∧ w = w' :=
  (Any.strconv_Itoa_small lays171 i (by omega) w).mono fun e w' ⟨h1, h2⟩ => ⟨by rw [h1, Lib.decDigits_one hi], h2.symm⟩
theorem FormatInt_any (n : Int) (h0 : -4611686018427387904 ≤ n) (h1 : n ≤ 4611686018427387904) (w : World) (he : Env w) : Calls Tryz.prog 124 #[.int .i64 n, .int .i64 10] w fun e w' => e = .returned (.string ⟨(Lib.itoa n).toArray⟩) ∧ Below w.heap.size w w' :=
  (Any.strconv_FormatInt_10 laysM173 n (by omega) (by omega) w (he.tab (by kernel_rfl))).mono fun e w' ⟨h1, k, os, h2⟩ => ⟨h1, by rw [h2]; exact Lib.below_grow _ w (Nat.le_refl _) k os⟩
theorem Contains_any (s sub : By) (w : World) (hs : s.length ≤ 1048576) (he : Env w) : Calls Tryz.prog 150 #[.string ⟨s.toArray⟩, .string ⟨sub.toArray⟩] w fun e w' => e = .returned (.bool (Lib.contains s sub)) ∧ w = w' := by
  obtain ⟨m, hm⟩ := he.m
  exact (Any.strings_Contains lays144 ⟨s.toArray⟩ ⟨sub.toArray⟩ m w (by rw [bs_len]; omega) hm).mono fun e w' ⟨h1, h2⟩ => ⟨h1, h2.symm⟩
theorem TrimDig_any (s : By) (w : World) : Calls Tryz.prog 194 #[.string ⟨s.toArray⟩, .string ⟨#[48, 49, 50, 51, 52, 53, 54, 55, 56, 57]⟩] w fun e w' => e = .returned (.string ⟨(resL s).toArray⟩) ∧ Below w.heap.size w w' :=
  (Any.strings_TrimLeft_laid lays161 (by kernel_rfl) ⟨s.toArray⟩ ⟨#[48, 49, 50, 51, 52, 53, 54, 55, 56, 57]⟩ w (by decide) (ascii_of_all (by decide))).mono fun e w' ⟨h1, h2⟩ => ⟨h1, h2⟩
theorem ParseInt_any (s : By) (w : World) (hs : s.length ≤ 1048576) (he : EnvX w) : Calls Tryz.prog 188 #[.string ⟨s.toArray⟩, .int .i64 10, .int .i64 64] w fun e w' => ∃ (v : Int) (ev : Value), e = .returned (.tuple #[.int .i64 v, ev]) ∧ ((ev = .nilIface ∧ Lib.parseIntB 64 s = .ok v) ∨ ((∃ t p, ev = .iface t p) ∧ (Lib.parseIntB 64 s = .syntax ∨ Lib.parseIntB 64 s = .range))) ∧ Below w.heap.size w w' := by
  have hsz : (ByteArray.mk s.toArray).size = s.length := bs_len s
  cases h : Lib.parseIntB 64 s with
  | ok v =>
    refine (Any.strconv_ParseInt_10_at64_ok laysC174 ⟨s.toArray⟩ (by rw [hsz]; omega) v h w).mono fun e w' ⟨h1, h2⟩ => ⟨v, .nilIface, h1, .inl ⟨rfl, rfl⟩, ?_⟩
    rcases h2 with rfl | ⟨t, rfl⟩
    · exact Below.refl _ _
    · exact Lib.bytesWorld_below _ _ _
  | «syntax» =>
    obtain ⟨tp, p, hp⟩ := he.s
    exact (Any.strconv_ParseInt_10_at64_syntax_var laysC174 ⟨s.toArray⟩ (by rw [hsz]; omega) h tp p w (hp.var (by kernel_rfl))).mono fun e w' ⟨N, h1, h2, h3, h4⟩ => ⟨_, _, h1, .inr ⟨⟨_, _, rfl⟩, .inl rfl⟩, h4⟩
  | range =>
    obtain ⟨tp, p, hp⟩ := he.r
    exact (Any.strconv_ParseInt_10_at64_range_var laysC174 ⟨s.toArray⟩ (by rw [hsz]; omega) h tp p w (hp.var (by kernel_rfl))).mono fun e w' ⟨N, h1, h2, h3, h4⟩ => ⟨_, _, h1, .inr ⟨⟨_, _, rfl⟩, .inr rfl⟩, h4⟩
end Go.Proofs.YticofgmmjecleaaGreatDoor
namespace Go.Proofs.YticofgmmjecleaaGreatDoor
open Go.RowKit
set_option maxHeartbeats 400000 in
set_option maxRecDepth 8000 in
theorem l01Prime_any (p : Int) (w : World) :
    Calls Tryz.prog 85 #[.int .i64 p] w fun e w' => e = .returned (.bool (isP p)) ∧ w = w' := by
  by_cases h3 : p = 3
  · subst h3
    go_enter Tryz.func85, Tryz.ntmps85
    go_wp2
    go_ret
    exact ⟨rfl, rfl⟩
  have b3 : (p == 3) = false := by simpa using h3
  by_cases h5 : p = 5
  · subst h5
    go_enter Tryz.func85, Tryz.ntmps85
    go_wp2
    go_ret
    exact ⟨rfl, rfl⟩
  have b5 : (p == 5) = false := by simpa using h5
  by_cases h7 : p = 7
  · subst h7
    go_enter Tryz.func85, Tryz.ntmps85
    go_wp2
    go_ret
    exact ⟨rfl, rfl⟩
  have b7 : (p == 7) = false := by simpa using h7
  by_cases h11 : p = 11
  · subst h11
    go_enter Tryz.func85, Tryz.ntmps85
    go_wp2
    go_ret
    exact ⟨rfl, rfl⟩
  have b11 : (p == 11) = false := by simpa using h11
  go_enter Tryz.func85, Tryz.ntmps85
  go_wp2
  go_ret
  exact ⟨ret_bool (by simp [isP, b3, b5, b7, b11]), rfl⟩
theorem l01Prime_b {b : Bool} (p : Int) (w : World) (h : isP p = b) :
    Calls Tryz.prog 85 #[.int .i64 p] w fun e w' => e = .returned (.bool b) ∧ w = w' := h ▸ l01Prime_any p w
set_option maxHeartbeats 400000 in
set_option maxRecDepth 8000 in
theorem l01In_any (n lo hi : Int) (w : World) :
    Calls Tryz.prog 86 #[.int .i64 n, .int .i64 lo, .int .i64 hi] w fun e w' => e = .returned (.bool (inR n lo hi)) ∧ w = w' := by
  by_cases h : lo ≤ n
  · go_enter Tryz.func86, Tryz.ntmps86
    go_wp2
    go_ret
    exact ⟨ret_bool (by simp [inR, h]), rfl⟩
  · go_enter Tryz.func86, Tryz.ntmps86
    go_wp2
    go_ret
    exact ⟨ret_bool (by simp [inR]; omega), rfl⟩
theorem l01In_b {b : Bool} (n lo hi : Int) (w : World) (h : inR n lo hi = b) :
    Calls Tryz.prog 86 #[.int .i64 n, .int .i64 lo, .int .i64 hi] w fun e w' => e = .returned (.bool b) ∧ w = w' := h ▸ l01In_any n lo hi w
set_option maxHeartbeats 400000 in
set_option maxRecDepth 8000 in
theorem l01Numbers_any (p : Int) (A : Option Addr) (n c : Nat) (xs : List Int) (w : World) (hp : 0 < p) (hp2 : p ≤ 100) (hn : n ≤ 1099511627776) (ha : Rd w A n (ints xs)) :
    Calls Tryz.prog 87 #[.int .i64 p, .slice A n c] w fun e w' => e = .returned (.bool (nums p xs)) ∧ w = w' := by
  have hxl : xs.length = n := by have := ha.1; rwa [ints_length] at this
  have Hx := Lib.hid hxl; clear hxl
  go_enter Tryz.func87, Tryz.ntmps87
  go_wp2
  go_loop [5] (fun i => ∃ k : Nat, k ≤ n ∧ i = .int .i64 k ∧ nums p (xs.take k) = true) (fun i => n - (intOf i).toNat)
  case atStart => exact ⟨0, by omega, rfl, by simp [nums]⟩
  case round =>
    obtain ⟨k, hk, rfl, ht⟩ := hrel
    have H := Lib.hid ht; clear ht
    by_cases hlt : k < n
    · obtain ⟨g, o, rfl, hx, hcx⟩ := ha.int hlt
      clear ha
      cases hi : inR xs[k] 0 (p - 1)
      all_goals
        have HI := Lib.hid hi; clear hi
        go_wp2_with (go_at_call 86; refine (l01In_b _ _ _ _ HI.out).mono ?_; rintro e w' ⟨rfl, rfl⟩)
      · go_ret
        exact ⟨ret_bool (nums_bad p xs k hx HI.out).symm, rfl⟩
      · go_round
        case rel => exact ⟨k + 1, by omega, by go_num, nums_take p xs k hx H.out HI.out⟩
        case measure => simp [intOf]; omega
    · go_wp2
      go_ret
      have := H.out
      rw [List.take_of_length_le (by rw [Hx.out]; omega)] at this
      exact ⟨ret_bool this.symm, rfl⟩
set_option maxHeartbeats 800000 in
set_option maxRecDepth 8000 in
theorem l03Is_any (P : Int) (A : Option Addr) (n c : Nat) (xs : List Int) (w : World) (hn : n ≤ 1099511627776) (ha : Rd w A n (ints xs)) :
    Calls Tryz.prog 46 #[.agg #[.int .i64 P, .slice A n c]] w fun e w' => e = .returned (.bool (isSp P xs)) ∧ Below w.heap.size w w' := by
  have hxl : xs.length = n := by have := ha.1; rwa [ints_length] at this
  have Hx := Lib.hid hxl; clear hxl
  have hB : Below w.heap.size w (w.alloc (.cells #[.int .i64 P, .slice A n c] 28)) := (Below.refl _ _).alloc (Nat.le_refl _) _
  have ha' := ha.below hB
  cases h1 : isP P
  · have H1 := Lib.hid h1; clear h1
    go_enter Tryz.func46, Tryz.ntmps46
    go_wp2_with (go_at_call 85; refine (l01Prime_b _ _ H1.out).mono ?_; rintro e w' ⟨rfl, rfl⟩)
    go_ret
    exact ⟨ret_bool (by simp [isSp, H1.out]), hB⟩
  · obtain ⟨hp0, hp1⟩ := isP_pos h1
    have H1 := Lib.hid h1; clear h1
    cases h2 : inR n 1 6
    · have H2 := Lib.hid h2; clear h2
      go_enter Tryz.func46, Tryz.ntmps46
      go_wp2_with (first | (go_at_call 85; refine (l01Prime_b _ _ H1.out).mono ?_; rintro e w' ⟨rfl, rfl⟩) | (go_at_call 86; refine (l01In_b _ _ _ _ H2.out).mono ?_; rintro e w' ⟨rfl, rfl⟩))
      go_ret
      exact ⟨ret_bool (by simp [isSp, H1.out, H2.out, Hx.out]), hB⟩
    · have H2 := Lib.hid h2; clear h2
      go_enter Tryz.func46, Tryz.ntmps46
      go_wp2_with (first | (go_at_call 85; refine (l01Prime_b _ _ H1.out).mono ?_; rintro e w' ⟨rfl, rfl⟩) | (go_at_call 86; refine (l01In_b _ _ _ _ H2.out).mono ?_; rintro e w' ⟨rfl, rfl⟩) | (go_at_call 87; refine (l01Numbers_any _ _ _ _ _ _ hp0 (by omega) hn ha').mono ?_; rintro e w' ⟨rfl, rfl⟩))
      go_ret
      exact ⟨ret_bool (by simp [isSp, H1.out, H2.out, Hx.out]), hB⟩
theorem l03Is_b {b : Bool} (P : Int) (A : Option Addr) (n c : Nat) (xs : List Int) (w : World) (hn : n ≤ 1099511627776) (ha : Rd w A n (ints xs)) (h : isSp P xs = b) :
    Calls Tryz.prog 46 #[.agg #[.int .i64 P, .slice A n c]] w fun e w' => e = .returned (.bool b) ∧ Below w.heap.size w w' := h ▸ l03Is_any P A n c xs w hn ha
end Go.Proofs.YticofgmmjecleaaGreatDoor
namespace Go.Proofs.YticofgmmjecleaaGreatDoor
open Go.RowKit
set_option maxHeartbeats 400000 in
set_option maxRecDepth 8000 in
theorem l04Size_any (P : Int) (A : Option Addr) (n c : Nat) (w : World) (hn : n ≤ 30) :
    Calls Tryz.prog 74 #[.agg #[.int .i64 P, .slice A n c]] w fun e w' => e = .returned (.int .i64 (pw n)) ∧ Below w.heap.size w w' := by
  go_enter Tryz.func74, Tryz.ntmps74
  go_wp2
  go_ret
  exact ⟨ret_int (wrap_pw n hn), (Below.refl _ _).alloc (Nat.le_refl _) _⟩
theorem inR_16 {n : Nat} (h : inR n 1 6 = true) : 1 ≤ n ∧ n ≤ 6 := by simp [inR] at h; omega
theorem isSp_dim {P : Int} {xs : List Int} (h : isSp P xs = true) : isP P = true ∧ 1 ≤ xs.length ∧ xs.length ≤ 6 ∧ nums P xs = true := by
  simp only [isSp, Bool.and_eq_true] at h
  obtain ⟨⟨h1, h2⟩, h3⟩ := h
  obtain ⟨h4, h5⟩ := inR_16 h2
  exact ⟨h1, h4, h5, h3⟩
end Go.Proofs.YticofgmmjecleaaGreatDoor
namespace Go.Proofs.YticofgmmjecleaaGreatDoor
open Go Go.RowKit
theorem nameTo_len (m : Nat) : ∀ k, (nameTo m k).length ≤ k + 1
  | 0 => by simp [nameTo]
  | k + 1 => by
    have := nameTo_len m k
    unfold nameTo
    split
    · simp; omega
    · omega
theorem nameTo_succ1 {m k : Nat} (h : bit m k = 1) : nameTo m (k + 1) = nameTo m k ++ [UInt8.ofNat (48 + k)] := by rw [nameTo, if_pos h]
theorem nameTo_succ0 {m k : Nat} (h : ¬ bit m k = 1) : nameTo m (k + 1) = nameTo m k := by rw [nameTo, if_neg h]
set_option maxHeartbeats 800000 in
set_option maxRecDepth 8000 in
theorem nameOf_any (P : Int) (A : Option Addr) (n c m : Nat) (w : World) (hn : n ≤ 6) (hm : m < 64) :
    Calls Tryz.prog 79 #[.agg #[.int .i64 P, .slice A n c], .int .i64 m] w fun e w' => e = .returned (.string ⟨(nameL n m).toArray⟩) ∧ Below w.heap.size w w' := by
  have hB0 : Below w.heap.size w (w.alloc (.cells #[.int .i64 P, .slice A n c] 28)) := (Below.refl _ _).alloc (Nat.le_refl _) _
  by_cases h0 : m = 0
  · subst h0
    go_enter Tryz.func79, Tryz.ntmps79
    go_wp2
    go_ret
    exact ⟨rfl, hB0⟩
  · have d0 : ((m : Int) == 0) = false := by simp; omega
    have HN : Hid (nameL n m = nameTo m n) := Lib.hid (by unfold nameL; rw [if_neg h0])
    have hdim := fun w => dim_any P A n c w
    clear h0
    go_enter Tryz.func79, Tryz.ntmps79
    go_wp2_with (go_at_call 78; refine (hdim _).mono ?_; rintro e w1 ⟨rfl, hb1⟩)
    have hB1 : Below w.heap.size w w1 := hB0.trans (hb1.mono (by simp))
    clear hb1 hdim hB0
    go_loopw [5, 11] (fun out i wr => ∃ k : Nat, k ≤ n ∧ i = .int .i64 k ∧ out = .string ⟨(nameTo m k).toArray⟩ ∧ Below w.heap.size w wr) (fun _ i _ => n - (intOf i).toNat)
    case atStart => exact ⟨0, by omega, rfl, rfl, hB1⟩
    case round =>
      obtain ⟨k, hk, rfl, rfl, hM⟩ := hrel
      clear hB1
      by_cases hlt : k < n
      · cases hb : (bits BinOp.and IntKind.i64 ((m : Int) / 2 ^ k) 1 == 1)
        · have hb' := Lib.hid (bit0 (by omega) hm hb)
          go_wp2
          go_roundw
          case rel => exact ⟨k + 1, by omega, by go_num, by rw [nameTo_succ0 hb'.out], hM⟩
          case measure => simp [intOf]; omega
        · have hb' := Lib.hid (bit1 (by omega) hm hb)
          have hit := Itoa_d k (by omega) wr
          have hl := nameTo_len m k
          obtain ⟨z, hz⟩ : ∃ z : By, z = [UInt8.ofNat (48 + k)] := ⟨_, rfl⟩
          have hzl : z.length ≤ 1 := by rw [hz]; exact Nat.le_refl 1
          have hcat := cat_bs (P := Tryz.prog) wr (nameTo m k) z (by omega) (by omega)
          rw [← hz] at hit
          have HZ := Lib.hid hz
          clear hl hz hzl
          go_wp2_with (go_at_call 114; refine hit.mono ?_; rintro e w2 ⟨rfl, rfl⟩)
          go_roundw
          case rel => exact ⟨k + 1, by omega, by go_num, by rw [nameTo_succ1 hb'.out, ← HZ.out], hM⟩
          case measure => simp [intOf]; omega
      · obtain rfl : k = n := by omega
        go_wp2
        go_ret
        exact ⟨by rw [HN.out]; rfl, hM⟩
theorem maskF_step (n : Nat) (t : By) (k i : Nat) : maskF n t (k + 1) i = if nameL n i = t then some i else maskF n t k (i + 1) := rfl
/-- The first name from i on is found, or none is. -/
theorem maskF_from (n : Nat) (t : By) : ∀ d i, (∀ j, j < i → nameL n j ≠ t) → i + d = pw n → maskOf n t = maskF n t d i
  | d, 0, _, hd => by rw [Nat.zero_add] at hd; subst hd; rfl
  | d, i + 1, h, hd => by
    rw [maskF_from n t (d + 1) i (fun j hj => h j (by omega)) (by omega), maskF_step, if_neg (h i (by omega))]
def markI (o : Option Nat) : Int := match o with
  | some m => (m : Int)
  | none => 0
set_option maxHeartbeats 1600000 in
set_option maxRecDepth 8000 in
theorem named_any (P : Int) (A : Option Addr) (n c : Nat) (t : By) (w : World) (hn : n ≤ 6) :
    Calls Tryz.prog 67 #[.agg #[.int .i64 P, .slice A n c], .string ⟨t.toArray⟩] w fun e w' => e = .returned (.tuple #[.int .i64 (markI (maskOf n t)), .bool (maskOf n t).isSome]) ∧ Below w.heap.size w w' := by
  have hB0 : Below w.heap.size w (w.alloc (.cells #[.int .i64 P, .slice A n c] 28)) := (Below.refl _ _).alloc (Nat.le_refl _) _
  have hk0 : Blk (w.alloc (.cells #[.int .i64 P, .slice A n c] 28)) w.heap.size 28 #[.int .i64 P, .slice A n c] := Blk.new _ _ _
  have hdim := fun w => dim_any P A n c w
  have hpw : pw n ≤ 64 := pw_le hn
  obtain ⟨R, hR⟩ : ∃ R, R = maskOf n t := ⟨_, rfl⟩
  have HR := Lib.hid hR
  rw [← hR]
  clear hR
  go_enter Tryz.func67, Tryz.ntmps67
  go_wp2_with (go_at_call 78; refine (hdim _).mono ?_; rintro e w1 ⟨rfl, hb1⟩)
  have hB1 : Below w.heap.size w w1 := hB0.trans (hb1.mono (by simp))
  have hk1 := hk0.below hb1 hk0.lt
  clear hb1 hdim hB0 hk0
  rw [wrap_pw n (by omega)]
  obtain ⟨N, hN⟩ : ∃ N, N = pw n := ⟨_, rfl⟩
  have HN := Lib.hid hN
  rw [← hN] at hpw ⊢
  clear hN
  go_loopw [10] (fun i wr => ∃ k : Nat, k ≤ N ∧ i = .int .i64 k ∧ (∀ j, j < k → nameL n j ≠ t) ∧ Below w1.heap.size w1 wr) (fun i _ => N - (intOf i).toNat)
  case atStart => exact ⟨0, by omega, rfl, fun j hj => absurd hj (by omega), Below.refl _ _⟩
  case round =>
    obtain ⟨k, hk, rfl, hnot, hM⟩ := hrel
    have HT := Lib.hid hnot
    clear hnot
    have hkr := hk1.below hM hk1.lt
    obtain ⟨q0, q1⟩ := hkr.two
    by_cases hlt : k < N
    · have hnm := nameOf_any P A n c k wr hn (by omega)
      have hd : maskF n t (N - k) k = if nameL n k = t then some k else maskF n t (N - (k + 1)) (k + 1) := by
        rw [show N - k = (N - (k + 1)) + 1 by omega]; rfl
      by_cases he : nameL n k = t
      · have hm : maskOf n t = some k := by rw [maskF_from n t (N - k) k HT.out (by rw [← HN.out]; omega), hd, if_pos he]
        rw [he] at hnm
        have HM := Lib.hid hm
        clear hd he hm
        go_wp2_with (go_at_call 79; refine hnm.mono ?_; rintro e w2 ⟨rfl, hb2⟩)
        go_ret2
        exact ⟨by rw [HR.out, HM.out]; rfl, hB1.trans ((hM.trans (hb2.mono hM.size)).mono hB1.size)⟩
      · obtain ⟨z, hz⟩ : ∃ z, z = nameL n k := ⟨_, rfl⟩
        rw [← hz] at hnm
        have hne : (z == t) = false := by rw [hz]; simpa using he
        have HT2 := Lib.hid (p := ∀ j, j < k + 1 → nameL n j ≠ t) (fun j hj => by
          by_cases e : j = k
          · subst e; exact he
          · exact HT.out j (by omega))
        clear hd he hz
        go_wp2_with (go_at_call 79; refine hnm.mono ?_; rintro e w2 ⟨rfl, hb2⟩)
        go_roundw
        case rel => exact ⟨k + 1, by omega, by go_num, HT2.out, hM.trans (hb2.mono hM.size)⟩
        case measure => simp [intOf]; omega
    · obtain rfl : k = N := by omega
      have hm : maskOf n t = none := by rw [maskF_from n t 0 k HT.out (by rw [← HN.out]; omega)]; rfl
      have HM := Lib.hid hm
      clear hm
      go_wp2
      go_ret2
      exact ⟨by rw [HR.out, HM.out]; rfl, hB1.trans (hM.mono hB1.size)⟩
end Go.Proofs.YticofgmmjecleaaGreatDoor
namespace Go.Proofs.YticofgmmjecleaaGreatDoor
open Go Go.RowKit
theorem dec_one {n : Nat} (h : n < 10) : Lib.decDigits n = [UInt8.ofNat (48 + n)] := by rw [Lib.decDigits, dif_pos h]
/-- A byte in a new block, read as a text. -/
theorem one_byte_text (w : World) (d : Nat) (hd : d < 10) :
    (convert 43 9 (.slice (some ⟨w.heap.size, 0, none⟩) 1 1)).run Tryz.prog (w.alloc (.cells #[.int .u8 (48 + (d : Int))] 5)) = .ok (.string ⟨[UInt8.ofNat (48 + d)].toArray⟩) (w.alloc (.cells #[.int .u8 (48 + (d : Int))] 5)) := by
  refine run_convert_bytes_back _ _ _ 5 _ 1 [UInt8.ofNat (48 + d)] Tryz.underlying43 Tryz.underlying5 Tryz.underlying9 fun j hj => ?_
  obtain rfl : j = 0 := by simpa using hj
  rw [Addr.add_lit]
  have hk := (Blk.new w 5 #[.int .u8 (48 + (d : Int))]).cell 0
  rw [Nat.zero_add]
  refine hk.trans ?_
  have : (UInt8.ofNat (48 + d)).toNat = 48 + d := by rw [UInt8.toNat_ofNat']; omega
  show some (Value.int .u8 (48 + (d : Int))) = some (.int .u8 ((UInt8.ofNat (48 + d)).toNat : Int))
  rw [this]; simp
set_option maxHeartbeats 800000 in
set_option maxRecDepth 8000 in
theorem l01Dec_small (n : Nat) (w : World) (hn : n < 10) :
    Calls Tryz.prog 113 #[.int .i64 n] w fun e w' => e = .returned (.string ⟨(Lib.decDigits n).toArray⟩) ∧ Below w.heap.size w w' := by
  have d1 : decide ((n : Int) < 10) = true := by simp; omega
  have W1 : wrap64 (48 + (n : Int)) = 48 + (n : Int) := by unfold wrap64; omega
  have W2 : IntKind.u8.wrap (48 + (n : Int)) = 48 + (n : Int) := by
    have e : IntKind.u8.wrap (48 + (n : Int)) = (48 + (n : Int)) % 256 := rfl
    rw [e]; omega
  have hcv := one_byte_text w n hn
  have hB : Below w.heap.size w (w.alloc (.cells #[.int .u8 (48 + (n : Int))] 5)) := (Below.refl _ _).alloc (Nat.le_refl _) _
  rw [dec_one hn]
  obtain ⟨z, hz⟩ : ∃ z : By, z = [UInt8.ofNat (48 + n)] := ⟨_, rfl⟩
  rw [← hz] at hcv ⊢
  clear hz
  go_enter Tryz.func113, Tryz.ntmps113
  go_wp2
  go_ret
  exact ⟨rfl, hB⟩
/-- Places beyond the dimension do not stand in a name. -/
theorem nameTo_more {n m : Nat} (hm : m < pw n) : ∀ d, nameTo m (n + d) = nameTo m n
  | 0 => rfl
  | d + 1 => by
    rw [← Nat.add_assoc, nameTo, if_neg, nameTo_more hm d]
    intro h
    have h1 : m / 2 ^ (n + d) = 0 := Nat.div_eq_of_lt (Nat.lt_of_lt_of_le hm (Nat.pow_le_pow_right (by omega) (by omega)))
    unfold bit at h
    rw [h1] at h
    simp at h
theorem nameL_six {n m : Nat} (hn : n ≤ 6) (hm : m < pw n) : nameL 6 m = nameL n m := by
  unfold nameL
  have := nameTo_more hm (6 - n)
  rw [show n + (6 - n) = 6 by omega] at this
  rw [this]
set_option maxHeartbeats 1600000 in
set_option maxRecDepth 8000 in
theorem l19Name_any (m : Nat) (w : World) (hm : m < 64) :
    Calls Tryz.prog 76 #[.int .i64 m] w fun e w' => e = .returned (.string ⟨(nameL 6 m).toArray⟩) ∧ Below w.heap.size w w' := by
  by_cases h0 : m = 0
  · subst h0
    go_enter Tryz.func76, Tryz.ntmps76
    go_wp2
    go_ret
    exact ⟨rfl, Below.refl _ _⟩
  · have d0 : ((m : Int) == 0) = false := by simp; omega
    have HN : Hid (nameL 6 m = nameTo m 6) := Lib.hid (by unfold nameL; rw [if_neg h0])
    clear h0
    go_enter Tryz.func76, Tryz.ntmps76
    go_wp2
    go_loopw [3, 4] (fun out i wr => ∃ k : Nat, k ≤ 6 ∧ i = .int .i64 k ∧ out = .string ⟨(nameTo m k).toArray⟩ ∧ Below w.heap.size w wr) (fun _ i _ => 6 - (intOf i).toNat)
    case atStart => exact ⟨0, by omega, rfl, rfl, Below.refl _ _⟩
    case round =>
      obtain ⟨k, hk, rfl, rfl, hM⟩ := hrel
      by_cases hlt : k < 6
      · cases hb : (bits BinOp.and IntKind.i64 ((m : Int) / 2 ^ k) 1 == 1)
        · have hb' := Lib.hid (bit0 (by omega) hm hb)
          go_wp2
          go_roundw
          case rel => exact ⟨k + 1, by omega, by go_num, by rw [nameTo_succ0 hb'.out], hM⟩
          case measure => simp [intOf]; omega
        · have hb' := Lib.hid (bit1 (by omega) hm hb)
          have hit := l01Dec_small k wr (by omega)
          rw [dec_one (by omega)] at hit
          have hl := nameTo_len m k
          obtain ⟨z, hz⟩ : ∃ z : By, z = [UInt8.ofNat (48 + k)] := ⟨_, rfl⟩
          have hzl : z.length ≤ 1 := by rw [hz]; exact Nat.le_refl 1
          have hcat := fun wx => cat_bs (P := Tryz.prog) wx (nameTo m k) z (by omega) (by omega)
          rw [← hz] at hit
          have HZ := Lib.hid hz
          clear hl hz hzl
          go_wp2_with (go_at_call 113; refine hit.mono ?_; rintro e w2 ⟨rfl, hb2⟩)
          go_roundw
          case rel => exact ⟨k + 1, by omega, by go_num, by rw [nameTo_succ1 hb'.out, ← HZ.out], hM.trans (hb2.mono hM.size)⟩
          case measure => simp [intOf]; omega
      · obtain rfl : k = 6 := by omega
        go_wp2
        go_ret
        exact ⟨by rw [HN.out]; rfl, hM⟩
def codeN (o : Option Nat) : Int := match o with
  | some _ => 0
  | none => 6
def monR (P : Int) (sq : List Int) (t : By) : Int × Int := if isSp P sq = true then (markI (maskOf sq.length t), codeN (maskOf sq.length t)) else (0, 1)
set_option maxHeartbeats 1600000 in
set_option maxRecDepth 8000 in
theorem specMaskOfName_any (P : Int) (A : Option Addr) (n c : Nat) (sq : List Int) (t : By) (w : World) (hn : n ≤ 1048576) (ha : Rd w A n (ints sq)) :
    Calls Tryz.prog 36 #[.agg #[.int .i64 P, .slice A n c], .string ⟨t.toArray⟩] w fun e w' => e = .returned (.tuple #[.int .i64 (monR P sq t).1, .int .i64 (monR P sq t).2]) ∧ Below w.heap.size w w' := by
  have hB0 : Below w.heap.size w (w.alloc (.cells #[.int .i64 P, .slice A n c] 28)) := (Below.refl _ _).alloc (Nat.le_refl _) _
  have hk0 : Blk (w.alloc (.cells #[.int .i64 P, .slice A n c] 28)) w.heap.size 28 #[.int .i64 P, .slice A n c] := Blk.new _ _ _
  obtain ⟨R, hR⟩ : ∃ R, R = monR P sq t := ⟨_, rfl⟩
  have HR := Lib.hid hR
  rw [← hR]
  clear hR
  have hln := ha.lenI
  cases hsp : isSp P sq
  · have his := l03Is_b P A n c sq _ (by omega) (ha.below hB0) hsp
    have hm : Hid (R = (0, 1)) := Lib.hid (by rw [HR.out]; unfold monR; rw [hsp]; rfl)
    go_enter Tryz.func36, Tryz.ntmps36
    go_wp2_with fail
    refine his.mono ?_
    rintro e w1 ⟨rfl, hb1⟩
    go_wp2
    go_ret2
    exact ⟨by rw [hm.out]; rfl, hB0.trans (hb1.mono (by simp))⟩
  · have his := l03Is_b P A n c sq _ (by omega) (ha.below hB0) hsp
    obtain ⟨hP, hd1, hd2, hnum⟩ := isSp_dim hsp
    have hn6 : n ≤ 6 := by omega
    have hpw : pw n ≤ 64 := pw_le hn6
    have hmon : Hid (R = (markI (maskOf n t), codeN (maskOf n t))) := Lib.hid (by rw [HR.out]; unfold monR; rw [hsp, hln]; rfl)
    have hszc := fun wx => l04Size_any P A n c wx (show n ≤ 30 by omega)
    obtain ⟨N, hN⟩ : ∃ N, N = pw n := ⟨_, rfl⟩
    have HN := Lib.hid hN
    rw [← hN] at hpw hszc
    have HL := Lib.hid hln
    clear hN hsp hP hnum HR hln
    go_enter Tryz.func36, Tryz.ntmps36
    go_wp2_with fail
    refine his.mono ?_
    rintro e w1 ⟨rfl, hb1⟩
    have hB1 : Below w.heap.size w w1 := hB0.trans (hb1.mono (by simp))
    have hk1 := hk0.below hb1 hk0.lt
    clear hb1 hB0 hk0
    go_wp2
    go_loopw [6] (fun i wr => ∃ k : Nat, k ≤ N ∧ i = .int .i64 k ∧ (∀ j, j < k → nameL n j ≠ t) ∧ Below w1.heap.size w1 wr) (fun i _ => N - (intOf i).toNat)
    case atStart => exact ⟨0, by omega, rfl, fun j hj => absurd hj (by omega), Below.refl _ _⟩
    case round =>
      obtain ⟨k, hk, rfl, hnot, hM⟩ := hrel
      have HT := Lib.hid hnot
      clear hnot
      have hkr := hk1.below hM hk1.lt
      obtain ⟨q0, q1⟩ := hkr.two
      go_wp2_with fail
      refine (hszc _).mono ?_
      rintro e w2 ⟨rfl, hb2⟩
      have hM2 := hM.trans (hb2.mono hM.size)
      clear hb2 hM hkr q0 q1
      by_cases hlt : k < N
      · have hnm := l19Name_any k w2 (by omega)
        rw [nameL_six hn6 (by rw [← HN.out]; exact hlt)] at hnm
        have hd : maskF n t (N - k) k = if nameL n k = t then some k else maskF n t (N - (k + 1)) (k + 1) := by
          rw [show N - k = (N - (k + 1)) + 1 by omega]; rfl
        by_cases he : nameL n k = t
        · have hm : maskOf n t = some k := by rw [maskF_from n t (N - k) k HT.out (by rw [← HN.out]; omega), hd, if_pos he]
          rw [he] at hnm
          have HM := Lib.hid hm
          clear hd he hm
          go_wp2_with (go_at_call 76; refine hnm.mono ?_; rintro e w3 ⟨rfl, hb3⟩)
          go_ret2
          exact ⟨by rw [hmon.out, HM.out]; rfl, hB1.trans ((hM2.trans (hb3.mono hM2.size)).mono hB1.size)⟩
        · obtain ⟨z, hz⟩ : ∃ z, z = nameL n k := ⟨_, rfl⟩
          rw [← hz] at hnm
          have hne : (z == t) = false := by rw [hz]; simpa using he
          have HT2 := Lib.hid (p := ∀ j, j < k + 1 → nameL n j ≠ t) (fun j hj => by
            by_cases e : j = k
            · subst e; exact he
            · exact HT.out j (by omega))
          clear hd he hz
          go_wp2_with (go_at_call 76; refine hnm.mono ?_; rintro e w3 ⟨rfl, hb3⟩)
          go_roundw
          case rel => exact ⟨k + 1, by omega, by go_num, HT2.out, hM2.trans (hb3.mono hM2.size)⟩
          case measure => simp [intOf]; omega
      · obtain rfl : k = N := by omega
        have hm : maskOf n t = none := by rw [maskF_from n t 0 k HT.out (by rw [← HN.out]; omega)]; rfl
        have HM := Lib.hid hm
        clear hm
        go_wp2
        go_ret2
        exact ⟨by rw [hmon.out, HM.out]; rfl, hB1.trans (hM2.mono hB1.size)⟩
end Go.Proofs.YticofgmmjecleaaGreatDoor
namespace Go.Proofs.YticofgmmjecleaaGreatDoor
open Go Go.RowKit
theorem str_to (w : World) (l : By) (k : Nat) (hk : k ≤ l.length) : (Instr.slice 9 (.string ⟨l.toArray⟩) none (some (.int .i64 (k : Int))) none).run Tryz.prog w = .ok (.string ⟨(l.take k).toArray⟩) w := by
  rw [run_slice_string_h w _ _ Tryz.underlying9 .i64 k (by omega) (by rw [bs_len]; omega), ByteArray.extract_mk, Int.toNat_natCast]
  rfl
theorem str_from (w : World) (l : By) (k : Nat) (hk : k ≤ l.length) : (Instr.slice 9 (.string ⟨l.toArray⟩) (some (.int .i64 (k : Int))) none none).run Tryz.prog w = .ok (.string ⟨(l.drop k).toArray⟩) w := by
  rw [run_slice_string_l w _ _ Tryz.underlying9 .i64 k (by omega) (by rw [bs_len]; omega), ByteArray.extract_mk, Int.toNat_natCast, bs_len]
  rw [List.take_of_length_le (by rw [List.length_drop]; omega)]
theorem str_at (w : World) (l : By) (k : Nat) (hk : k < l.length) : (Instr.index 9 (.string ⟨l.toArray⟩) (.int .i64 (k : Int))).run Tryz.prog w = .ok (.int .u8 (l[k]).toNat) w := by
  rw [run_index_string w _ _ .i64 k Tryz.underlying9, dif_pos ⟨by omega, by rw [bs_len]; omega⟩]
  rfl
theorem str_to1 (w : World) (l : By) (h : 1 ≤ l.length) : (Instr.slice 9 (.string ⟨l.toArray⟩) none (some (.int .i64 1)) none).run Tryz.prog w = .ok (.string ⟨(l.take 1).toArray⟩) w := str_to w l 1 h
theorem str_from1 (w : World) (l : By) (h : 1 ≤ l.length) : (Instr.slice 9 (.string ⟨l.toArray⟩) (some (.int .i64 1)) none none).run Tryz.prog w = .ok (.string ⟨(l.drop 1).toArray⟩) w := str_from w l 1 h
theorem str_at0 (w : World) (l : By) (h : 0 < l.length) : (Instr.index 9 (.string ⟨l.toArray⟩) (.int .i64 0)).run Tryz.prog w = .ok (.int .u8 (l[0]).toNat) w := str_at w l 0 h
theorem str_len (w : World) (ty : TypeId) (l : By) : (Builtin.len_ #[9] ty #[.string ⟨l.toArray⟩]).run Tryz.prog w = .ok (.int .i64 l.length) w := by
  rw [run_len_string w _ _ _ Tryz.underlying9, bs_len]
  rfl
theorem contains_one (cs : By) (c : UInt8) : Lib.contains cs [c] = cs.contains c := by
  unfold Lib.contains
  induction cs with
  | nil => rw [index_one_nil]; rfl
  | cons d r ih =>
    by_cases h : d = c
    · subst h
      rw [index_one_eq]
      simp
    · rw [index_one_ne h]
      have e : (d :: r).contains c = r.contains c := by
        rw [List.contains_cons]
        have : (c == d) = false := by simpa using fun e : c = d => h e.symm
        rw [this, Bool.false_or]
      rw [e, ← ih]
      have hge := Lib.index_ge r [c]
      split
      · rename_i h1; rw [h1]
      · have : decide (0 ≤ Lib.index r [c] + 1) = decide (0 ≤ Lib.index r [c]) := by
          have : Lib.index r [c] ≠ -1 := by assumption
          simp only [decide_eq_decide]; omega
        exact this
end Go.Proofs.YticofgmmjecleaaGreatDoor
namespace Go.Proofs.YticofgmmjecleaaGreatDoor
open Go Go.RowKit
/-- The values of a list of texts. -/
def txts (ts : List By) : List Value := ts.map fun t => .string ⟨t.toArray⟩
theorem txts_length (ts : List By) : (txts ts).length = ts.length := by simp [txts]
theorem txts_get (ts : List By) (k : Nat) (h : k < ts.length) : (txts ts)[k]? = some (.string ⟨ts[k].toArray⟩) := by simp [txts, h]
theorem txts_replicate (n : Nat) : List.replicate n (Value.string ⟨#[]⟩) = txts (List.replicate n []) := by simp [txts]
theorem txts_set (ts : List By) (k : Nat) (t : By) : (txts ts).set k (.string ⟨t.toArray⟩) = txts (ts.set k t) := by simp [txts, List.map_set]
theorem Rd.str {w : World} {A : Option Addr} {n : Nat} {ts : List By} (h : Rd w A n (txts ts)) {k : Nat} (hk : k < n) :
    ∃ g o, A = some ⟨g, o, none⟩ ∧ ∃ hx : k < ts.length, w.cell? ⟨g, o + k, none⟩ = some (.string ⟨ts[k].toArray⟩) := by
  obtain ⟨g, o, e, hc⟩ := h.2 (by omega)
  have hl : k < ts.length := by have := h.1; rw [txts_length] at this; omega
  exact ⟨g, o, e, hl, hc k _ (txts_get ts k hl)⟩
theorem Rd.lenS {w : World} {A : Option Addr} {n : Nat} {ts : List By} (h : Rd w A n (txts ts)) : ts.length = n := by have := h.1; rwa [txts_length] at this
theorem Own.cellS {w : World} {B : Nat} {E : TypeId} {g n c : Nat} {ts : List By} (h : Own w B E (some ⟨g, 0, none⟩) n c (txts ts)) {k : Nat} (hk : k < n) : ∃ x, w.cell? ⟨g, k, none⟩ = some (.string x) := by
  have hl : k < ts.length := by have := h.len; rw [txts_length] at this; omega
  exact ⟨⟨ts[k].toArray⟩, (World.ownsRow.cellAt h k (by omega)).trans (txts_get ts k hl)⟩
theorem info_t : (Tryz.prog.info? 9).map (fun i => (i.zero, i.size, i.bytes)) = some (some (.string ⟨#[]⟩), 1, 16) := by kernel_rfl
theorem make_t (n : Nat) (hn : n ≤ 1099511627776) :
    ∀ w : World, (Instr.makeSlice 37 (.int .i64 (n : Int)) (.int .i64 (n : Int))).run Tryz.prog w = .ok (.slice (some ⟨w.heap.size, 0, none⟩) n n) (w.alloc (.cells (madeCells #[.string ⟨#[]⟩] n) 9)) :=
  run_make_row' 37 9 (.string ⟨#[]⟩) 16 Tryz.underlying37 info_t rfl .i64 .i64 n (by omega) (by omega)
theorem set_copyT (xs : List By) (n k : Nat) (hx : k < xs.length) (hn : xs.length = n) :
    (xs.take k ++ List.replicate (n - k) []).set k xs[k] = xs.take (k + 1) ++ List.replicate (n - (k + 1)) [] := by
  have hl : (xs.take k).length = k := by simp; omega
  rw [List.set_append, if_neg (by omega), hl, Nat.sub_self, List.take_succ_eq_append_getElem hx, List.append_assoc]
  congr 1
  obtain ⟨m, hm⟩ : ∃ m, n - k = m + 1 := ⟨n - k - 1, by omega⟩
  rw [hm, show n - (k + 1) = m by omega]
  simp [List.replicate_succ]
set_option maxHeartbeats 400000 in
set_option maxRecDepth 8000 in
theorem toStringS_any (A : Option Addr) (n c : Nat) (xs : List By) (w : World) (hn : n ≤ 1099511627776) (ha : Rd w A n (txts xs)) :
    Calls Tryz.prog 21 #[.slice A n c] w fun e w' => ∃ A' c', e = .returned (.slice A' n c') ∧ Mk w w' 9 A' n c' (txts xs) := by
  have hxl : xs.length = n := ha.lenS
  have Hx := Lib.hid hxl; clear hxl
  have hmk := make_t n hn
  have hM0 := Mk.made (E := 9) (n := n) (z := .string ⟨#[]⟩) (Below.refl w.heap.size w) (by simp only [maxLen]; omega)
  rw [txts_replicate] at hM0
  go_enter Tryz.func21, Tryz.ntmps21
  go_wp2
  clear hmk
  go_loopw [4] (fun i wr => ∃ k : Nat, k ≤ n ∧ i = .int .i64 k ∧ Mk w wr 9 (some ⟨w.heap.size, 0, none⟩) n n (txts (xs.take k ++ List.replicate (n - k) []))) (fun i _ => n - (intOf i).toNat)
  case atStart => exact ⟨0, by omega, rfl, by simpa using hM0⟩
  case round =>
    obtain ⟨k, hk, rfl, hM⟩ := hrel
    clear hM0
    by_cases hlt : k < n
    · obtain ⟨g, o, rfl, hx, hcx⟩ := ha.str hlt
      have hc0 : wr.cell? ⟨g, o + k, none⟩ = some (.string ⟨xs[k].toArray⟩) := (hM.1.cell (World.block_lt_of_cell? _ _ hcx)).trans hcx
      obtain ⟨u1, hc1⟩ := hM.2.cellS hlt
      have hf1 := hM.2.frozen_ k
      have hset := (hM.set k (.string ⟨xs[k].toArray⟩)).1
      rw [txts_set, set_copyT xs n k hx Hx.out] at hset
      have HM := Lib.hid hset
      clear ha hM hset
      go_wp2
      go_roundw
      case rel => exact ⟨k + 1, by omega, by go_num, HM.out⟩
      case measure => simp [intOf]; omega
    · go_wp2
      go_ret
      obtain rfl : k = n := by omega
      rw [List.take_of_length_le (by rw [Hx.out]; omega)] at hM
      exact ⟨_, _, rfl, by simpa using hM⟩
/-- What is left of a size behind some texts. -/
def lefT : List By → Int → Int
  | [], l => l
  | t :: r, l => if l - t.length < 0 then -1 else lefT r (l - t.length)
def szT (ts : List By) (left : Int) : Int := if left - ts.length < 0 then -1 else lefT ts (left - ts.length)
set_option maxHeartbeats 400000 in
set_option maxRecDepth 8000 in
theorem szStringS_any (A : Option Addr) (n c : Nat) (ts : List By) (left : Int) (w : World) (hn : n ≤ 9223372036854775807) (h0 : 0 ≤ left) (h1 : left ≤ 1048576) (ha : Rd w A n (txts ts)) (hts : ∀ t ∈ ts, t.length ≤ 9223372036854775807) :
    Calls Tryz.prog 19 #[.slice A n c, .int .i64 left] w fun e w' => e = .returned (.int .i64 (szT ts left)) ∧ w = w' := by
  have hxl : ts.length = n := ha.lenS
  have HT := Lib.hid hts
  clear hts
  by_cases h : left - n < 0
  · have hs : szT ts left = -1 := by unfold szT; rw [hxl, if_pos h]
    have H := Lib.hid hs; clear hs hxl
    go_enter Tryz.func19, Tryz.ntmps19
    go_wp2
    go_ret
    exact ⟨ret_int H.out.symm, rfl⟩
  · have hs : szT ts left = lefT ts (left - n) := by unfold szT; rw [hxl, if_neg h]
    have H := Lib.hid hs; clear hs
    have Hx := Lib.hid hxl; clear hxl
    have d1 : decide (left - (n : Int) < 0) = false := by simpa using h
    have w1 : wrap64 (left - (n : Int)) = left - n := by unfold wrap64; omega
    go_enter Tryz.func19, Tryz.ntmps19
    go_wp2
    go_loop [1, 5] (fun l i => ∃ (k : Nat) (v : Int), k ≤ n ∧ i = .int .i64 k ∧ l = .int .i64 v ∧ 0 ≤ v ∧ v ≤ 1048576 ∧ lefT ts (left - n) = lefT (ts.drop k) v) (fun _ i => n - (intOf i).toNat)
    case atStart => exact ⟨0, left - n, by omega, rfl, rfl, by omega, by omega, rfl⟩
    case round =>
      obtain ⟨k, v, hk, rfl, rfl, hv0, hv1, hl⟩ := hrel
      by_cases hlt : k < n
      · obtain ⟨g, o, rfl, hx, hcx⟩ := ha.str hlt
        have hlk := HT.out ts[k] (List.getElem_mem hx)
        rw [List.drop_eq_getElem_cons hx, lefT] at hl
        have HL := Lib.hid hl
        clear ha hl
        have hln := fun wx ty => str_len wx ty ts[k]
        generalize ts[k] = t at *
        obtain ⟨m, hm⟩ : ∃ m : Nat, m = t.length := ⟨_, rfl⟩
        rw [← hm] at hln hlk HL
        clear hm
        by_cases hneg : v - m < 0
        · have d2 : decide (v - (m : Int) < 0) = true := by simpa using hneg
          have w2 : wrap64 (v - (m : Int)) = v - m := by unfold wrap64; omega
          go_wp2
          go_ret
          exact ⟨ret_int (by rw [H.out, HL.out, if_pos hneg]), rfl⟩
        · have d2 : decide (v - (m : Int) < 0) = false := by simpa using hneg
          have w2 : wrap64 (v - (m : Int)) = v - m := by unfold wrap64; omega
          go_wp2
          go_round
          case rel => exact ⟨k + 1, v - m, by omega, by go_num, rfl, by omega, by omega, by rw [HL.out, if_neg hneg]⟩
          case measure => simp [intOf]; omega
      · obtain rfl : k = n := by omega
        have hd : ts.drop k = [] := List.drop_of_length_le (by rw [Hx.out]; exact Nat.le_refl _)
        rw [hd] at hl
        have HL := Lib.hid hl
        clear hl hd
        go_wp2
        go_ret
        exact ⟨ret_int (by rw [H.out, HL.out]; rfl), rfl⟩
set_option maxHeartbeats 400000 in
set_option maxRecDepth 8000 in
theorem eqStringS_same (A B : Option Addr) (n m c d : Nat) (xs : List By) (w : World) (hn : n ≤ 1099511627776) (hm : m ≤ 1099511627776) (ha : Rd w A n (txts xs)) (hb : Rd w B m (txts xs)) :
    Calls Tryz.prog 23 #[.slice A n c, .slice B m d] w fun e w' => e = .returned (.bool true) ∧ Below w.heap.size w w' := by
  have hxl : xs.length = n := ha.lenS
  have hyl : xs.length = m := hb.lenS
  obtain rfl : n = m := by omega
  clear hxl hyl
  go_enter Tryz.func23, Tryz.ntmps23
  go_wp2
  go_loopw [5] (fun i wr => ∃ k j : Nat, k ≤ n ∧ i = .int .i64 k ∧ wr = w.drewN j) (fun i _ => n - (intOf i).toNat)
  case atStart => exact ⟨0, 0, by omega, rfl, rfl⟩
  case round =>
    obtain ⟨k, j, hk, rfl, rfl⟩ := hrel
    by_cases hlt : k < n
    · obtain ⟨g, o, rfl, hx, hcx⟩ := ha.str hlt
      obtain ⟨g', o', rfl, hy, hcy⟩ := hb.str hlt
      clear ha hb
      go_wp2
      go_quiet (fail)
      go_wp2
      go_roundw
      case rel => exact ⟨k + 1, _, by omega, by go_num, rfl⟩
      case measure => simp [intOf]; omega
    · go_wp2
      go_ret
      exact ⟨rfl, below_drewN (Below.refl _ _) _⟩
def tenP (d : Nat) : Nat := 10 ^ d
theorem tenP_more (d : Nat) : tenP (d + 1) = tenP d * 10 := Nat.pow_succ ..
set_option maxHeartbeats 800000 in
set_option maxRecDepth 100000 in
theorem markText_any (k : Int) (w : World) (hk0 : 0 ≤ k) (hk : k < 10000000000000) :
    Calls Tryz.prog 58 #[.int .i64 k] w fun e w' => ∃ t : By, e = .returned (.string ⟨t.toArray⟩) ∧ Below w.heap.size w w' := by
  by_cases h0 : k ≤ 0
  · have d0 : decide (k ≤ 0) = true := by simpa using h0
    go_enter Tryz.func58, Tryz.ntmps58
    go_wp2
    go_ret
    exact ⟨[109, 48], rfl, Below.refl _ _⟩
  · have d0 : decide (k ≤ 0) = false := by simpa using h0
    have h13 : k.toNat < tenP 13 := by rw [show tenP 13 = 10000000000000 by decide +kernel]; omega
    have H13 := Lib.hid h13
    have HK : Hid (k.toNat < 10000000000000 ∧ k = (k.toNat : Int)) := Lib.hid (by omega)
    clear h13 h0 hk0 hk
    go_enter Tryz.func58, Tryz.ntmps58
    go_wp2
    clear d0
    go_loopw [0, 3] (fun m o wr => ∃ (j d : Nat) (out : By), m = .int .i64 j ∧ o = .string ⟨out.toArray⟩ ∧ out.length + d ≤ 13 ∧ j < tenP d ∧ j < 10000000000000 ∧ Below w.heap.size w wr) (fun m _ _ => (intOf m).toNat)
    case atStart => exact ⟨k.toNat, 13, [], by rw [← HK.out.2], rfl, Nat.le_refl _, H13.out, HK.out.1, Below.refl _ _⟩
    case round =>
      obtain ⟨j, d, out, rfl, rfl, hl, hj, hjb, hM⟩ := hrel
      clear H13 HK
      by_cases hj0 : j = 0
      · subst hj0
        have hcat := fun wx => cat_bs (P := Tryz.prog) wx [109] out (by simp) (by omega)
        clear hj
        have HL := Lib.hid hl
        clear hl
        go_wp2
        go_ret
        exact ⟨_, rfl, hM⟩
      · have d1 : decide ((0 : Int) < (j : Int)) = true := by simp; omega
        obtain ⟨d, rfl⟩ : ∃ e, d = e + 1 := by
          cases d with
          | zero => rw [show tenP 0 = 1 from rfl] at hj; omega
          | succ e => exact ⟨e, rfl⟩
        have hpow : j / 10 < tenP d := by rw [Nat.div_lt_iff_lt_mul (by omega), ← tenP_more]; exact hj
        have hq3 : Int.tmod (j : Int) 10 = ((j % 10 : Nat) : Int) := by rw [Int.tmod_eq_emod_of_nonneg (by omega)]; omega
        have hq4 : Int.tdiv (j : Int) 10 = ((j / 10 : Nat) : Int) := by rw [Int.tdiv_eq_ediv_of_nonneg (by omega)]; omega
        have hd10 : j % 10 < 10 := by omega
        have hj2 : j / 10 < j := by omega
        obtain ⟨D, hD⟩ : ∃ D, D = j % 10 := ⟨_, rfl⟩
        obtain ⟨Q, hQ⟩ : ∃ Q, Q = j / 10 := ⟨_, rfl⟩
        rw [← hD] at hq3 hd10
        rw [← hQ] at hq4 hj2 hpow
        clear hD hQ
        have W1 : wrap64 (48 + (D : Int)) = 48 + (D : Int) := by unfold wrap64; omega
        have W2 : IntKind.u8.wrap (48 + (D : Int)) = 48 + (D : Int) := by
          have e : IntKind.u8.wrap (48 + (D : Int)) = (48 + (D : Int)) % 256 := rfl
          rw [e]; omega
        have hcv := one_byte_text wr D hd10
        have hB : Below w.heap.size w (wr.alloc (.cells #[.int .u8 (48 + (D : Int))] 5)) := hM.alloc hM.size _
        obtain ⟨z, hz⟩ : ∃ z : By, z = [UInt8.ofNat (48 + D)] := ⟨_, rfl⟩
        have hzl : z.length = 1 := by rw [hz]; rfl
        rw [← hz] at hcv
        clear hz
        have hcat := fun wx => cat_bs (P := Tryz.prog) wx z out (by omega) (by omega)
        have HL : Hid ((z ++ out).length + d ≤ 13) := Lib.hid (by rw [List.length_append]; omega)
        have HP := Lib.hid hpow
        clear hpow hzl hl hj
        go_wp2
        go_roundw
        case rel => exact ⟨Q, d, z ++ out, rfl, rfl, HL.out, HP.out, by omega, hB⟩
        case measure => simp [intOf]; omega
set_option maxHeartbeats 800000 in
set_option maxRecDepth 8000 in
theorem markStringS_any (B : Nat) (A : Option Addr) (n c : Nat) (xs : List By) (k : Int) (w : World) (hn : n ≤ 1048576) (hk0 : 0 ≤ k) (hk : k ≤ 1099511627776) (ha : Own w B 9 A n c (txts xs)) :
    Calls Tryz.prog 24 #[.slice A n c, .int .i64 k] w fun e w' => e = .returned (.int .i64 (k + n)) ∧ (∃ ys : List By, Own w' B 9 A n c (txts ys)) ∧ w.grownBy w' (Value.slice A n c).ownBlock := by
  go_enter Tryz.func24, Tryz.ntmps24
  go_wp2
  go_loopw [1, 5] (fun m i wr => ∃ (j : Nat) (ys : List By), j ≤ n ∧ i = .int .i64 j ∧ m = .int .i64 (k + j) ∧ Own wr B 9 A n c (txts ys) ∧ w.grownBy wr (Value.slice A n c).ownBlock) (fun _ i _ => n - (intOf i).toNat)
  case atStart => exact ⟨0, xs, by omega, rfl, by simp, ha, World.grownBy.refl _ _⟩
  case round =>
    obtain ⟨j, ys, hj, rfl, rfl, hO, hG⟩ := hrel
    clear ha
    by_cases hlt : j < n
    · have hmt := markText_any (k + j) wr (by omega) (by omega)
      rcases hO.form with ⟨_, h0⟩ | ⟨g, rfl, hB, hgl⟩
      · omega
      go_wp2_with fail
      refine hmt.mono ?_
      rintro e w1 ⟨t, rfl, hb1⟩
      have hO1 := hO.below hb1
      have hG1 := hG.trans ⟨hb1.os, hb1.tape, hb1.output, hb1.size, fun k hk _ => hb1.block k hk⟩
      obtain ⟨u1, hc1⟩ := hO1.cellS hlt
      have hf1 := hO1.frozen_ j
      obtain ⟨hs1, hs2⟩ := World.ownsRow.stored hO1 j (.string ⟨t.toArray⟩)
      rw [txts_set] at hs1
      have HO := Lib.hid hs1
      have HG := Lib.hid (hG1.trans hs2)
      clear hs1 hs2 hO hG hO1 hG1 hb1
      go_wp2
      go_roundw
      case rel => exact ⟨j + 1, _, by omega, by go_num, by congr 1; omega, HO.out, HG.out⟩
      case measure => simp [intOf]; omega
    · go_wp2
      go_ret
      obtain rfl : j = n := by omega
      exact ⟨rfl, ⟨ys, hO⟩, hG⟩
/-- A function of a text that tells whether p holds. -/
def TellsT (f : FuncId) (p : By → Bool) : Prop :=
  ∀ (w : World) (x : By), x.length ≤ 1048576 → Calls Tryz.prog f #[.string ⟨x.toArray⟩] w fun e w' => e = .returned (.bool (p x)) ∧ w = w'
set_option maxHeartbeats 800000 in
set_option maxRecDepth 8000 in
theorem IndexFuncT_any (f : FuncId) (p : By → Bool) (A : Option Addr) (n c : Nat) (xs : List By) (w : World) (hn : n ≤ 1099511627776) (ha : Rd w A n (txts xs)) (hxs : ∀ x ∈ xs, x.length ≤ 1048576)
    (hf : TellsT f p) (hcf : ∀ (args : Array Value) (w : World), (callFunc f args).run Tryz.prog w = .ok (.enter f args) w) :
    Calls Tryz.prog 93 #[.slice A n c, .func (.func f) #[] #[]] w fun e w' => ∃ r : Int, e = .returned (.int .i64 r) ∧ decide (0 ≤ r) = xs.any p ∧ w = w' := by
  have hxl : xs.length = n := ha.lenS
  have Hx := Lib.hid hxl; clear hxl
  have HX := Lib.hid hxs; clear hxs
  go_enter Tryz.func93, Tryz.ntmps93
  go_wp2
  go_loop [5, 8] (fun _ i => ∃ k : Nat, k ≤ n ∧ i = .int .i64 k ∧ (xs.take k).any p = false) (fun _ i => n - (intOf i).toNat)
  case atStart => exact ⟨0, by omega, rfl, by simp⟩
  case round =>
    obtain ⟨k, hk, rfl, ht⟩ := hrel
    have H := Lib.hid ht; clear ht
    by_cases hlt : k < n
    · obtain ⟨g, o, rfl, hx, hcx⟩ := ha.str hlt
      have b1 := HX.out xs[k] (List.getElem_mem hx)
      have hfk := hf w xs[k] b1
      clear ha b1
      cases hi : p xs[k]
      all_goals
        have HI := Lib.hid hi; clear hi
        go_wp2_with fail
        refine hfk.mono ?_
        rintro e w1 ⟨rfl, rfl⟩
        rw [HI.out]
        go_wp2
      · go_round
        case rel =>
          refine ⟨k + 1, by omega, by go_num, ?_⟩
          rw [List.take_succ_eq_append_getElem hx, List.any_append, H.out]
          simpa using HI.out
        case measure => simp [intOf]; omega
      · go_ret
        refine ⟨_, rfl, ?_, rfl⟩
        have : xs.any p = true := List.any_eq_true.2 ⟨xs[k], List.getElem_mem hx, HI.out⟩
        rw [this]; simp
    · go_wp2
      go_ret
      refine ⟨_, rfl, ?_, rfl⟩
      have := H.out
      rw [List.take_of_length_le (by rw [Hx.out]; omega)] at this
      rw [this]; simp
set_option maxHeartbeats 400000 in
set_option maxRecDepth 8000 in
theorem ContainsFuncT_any (f : FuncId) (p : By → Bool) (A : Option Addr) (n c : Nat) (xs : List By) (w : World) (hn : n ≤ 1099511627776) (ha : Rd w A n (txts xs)) (hxs : ∀ x ∈ xs, x.length ≤ 1048576)
    (hf : TellsT f p) (hcf : ∀ (args : Array Value) (w : World), (callFunc f args).run Tryz.prog w = .ok (.enter f args) w) :
    Calls Tryz.prog 53 #[.slice A n c, .func (.func f) #[] #[]] w fun e w' => e = .returned (.bool (xs.any p)) ∧ w = w' := by
  go_enter Tryz.func53, Tryz.ntmps53
  go_wp2_with fail
  refine (IndexFuncT_any _ p _ _ _ _ _ hn ha hxs hf hcf).mono ?_
  rintro e w1 ⟨r, rfl, hr, rfl⟩
  have HR := Lib.hid hr; clear hr
  go_wp2
  go_ret
  exact ⟨ret_bool HR.out, rfl⟩
set_option maxHeartbeats 400000 in
set_option maxRecDepth 8000 in
theorem longText_tells : TellsT 54 (fun t => decide (200 < t.length)) := by
  intro w x hx
  have hln := fun wx ty => str_len wx ty x
  have h : decide ((200 : Int) < (x.length : Int)) = decide (200 < x.length) := by simp only [decide_eq_decide]; omega
  have H := Lib.hid h
  clear h
  go_enter Tryz.func54, Tryz.ntmps54
  go_wp2
  go_ret
  exact ⟨ret_bool H.out, rfl⟩
end Go.Proofs.YticofgmmjecleaaGreatDoor
namespace Go.Proofs.YticofgmmjecleaaGreatDoor
open Go Go.RowKit
theorem cells_str : Tryz.prog.cellsOf 9 = 1 := by kernel_rfl
theorem strs_at {w : World} {a : Addr} {ss : List ByteArray} (h : ∀ i, i < ss.length → w.cell? (a.add i) = some (.string (ss.getD i ByteArray.empty))) (hp : 0 < ss.length) :
    ∃ b off, a = ⟨b, off, none⟩ ∧ ∀ j, j < ss.length → w.cell? ⟨b, off + j, none⟩ = some (.string (ss.getD j ByteArray.empty)) := by
  obtain ⟨b, off, spot⟩ := a
  have hspot : spot = none := by simpa [Addr.add] using World.cell?_spot (h 0 hp)
  subst hspot
  exact ⟨b, off, rfl, fun j hj => by rw [← Go.WideShapes.add_plain]; exact h j hj⟩
theorem openT {H : Type} {enc : TypeId × Value → H} {w : World} {base : Nat} {spare : Nat → Bool} {held : Bool} {fuel : Nat} {cs : List Value} {x : DataW H × List MemPlace} (h : DataW.trod enc Tryz.prog w base spare held fuel 37 cs = some x) :
    ∃ (A : Option Addr) (n c : Nat) (ts : List By), cs = [.slice A n c] ∧ n ≤ c ∧ n ≤ 9223372036854775807 ∧ Rd w A n (txts ts) ∧ ∀ t ∈ ts, t.length ≤ 9223372036854775807 := by
  rcases Go.ChangeShapes.open_strings Tryz.underlying37 Tryz.underlying9 cells_str h with ⟨hcs, hx⟩ | ⟨a, len, cap, ss, hcs, _, hl, hm, hz, hx, hcell, hwz⟩
  · exact ⟨none, 0, 0, [], hcs, Nat.le_refl _, by omega, Rd.nil _ _, fun t ht => by cases ht⟩
  · have hlz : len ≤ ss.length := by rw [hz]; split <;> omega
    have hm' : cap ≤ 9223372036854775807 := by simpa [maxLen] using hm
    refine ⟨some a, len, cap, (ss.take len).map fun s => s.data.toList, hcs, hl, by omega, ⟨by rw [txts_length, List.length_map, List.length_take]; omega, fun hp => ?_⟩, fun t ht => ?_⟩
    · obtain ⟨b, off, rfl, hc⟩ := strs_at hcell (by omega)
      refine ⟨b, off, rfl, fun k u hu => ?_⟩
      have hk : k < len := by
        have := (List.getElem?_eq_some_iff.1 hu).1
        rw [txts_length, List.length_map, List.length_take] at this
        omega
      rw [hc k (by omega)]
      rw [txts_get _ k (by rw [List.length_map, List.length_take]; omega)] at hu
      rw [← hu]
      simp [List.getD, show k < ss.length by omega]
    · obtain ⟨s, hs, rfl⟩ := List.mem_map.1 ht
      have := hwz s (List.mem_of_mem_take hs)
      simpa [maxLen] using this
theorem lefT_all : ∀ (ts : List By) (l : Int), l ≤ 1048576 → 0 ≤ lefT ts l → ∀ t ∈ ts, t.length ≤ 1048576
  | [], l, _, _, t, ht => by cases ht
  | s :: r, l, hl, h, t, ht => by
    unfold lefT at h
    split at h
    · omega
    · rcases List.mem_cons.1 ht with rfl | ht
      · omega
      · exact lefT_all r _ (by omega) h t ht
theorem szT_all {ts : List By} {l : Int} (hl : l ≤ 1048576) (h : 0 ≤ szT ts l) : ts.length ≤ 1048576 ∧ ∀ t ∈ ts, t.length ≤ 1048576 := by
  unfold szT at h
  split at h
  · omega
  · exact ⟨by omega, lefT_all ts _ (by omega) h⟩
end Go.Proofs.YticofgmmjecleaaGreatDoor
namespace Go.Proofs.YticofgmmjecleaaGreatDoor
open Go
section
variable {P : Int} {sq : List Int} {n : Nat}
theorem evE_sum_eq (t : By) : evE P sq n .sum t = (evE P sq n .prod t).bind fun r => evE P sq n (.sumL r.1) r.2 := by
  have e : evE P sq n .sum t = ev P sq n (8 * t.length + 5 + 1) .sum t := rfl
  rw [e, ev, ev_enough (m := .prod) (show need .prod t ≤ _ by simp only [need, rk]; omega)]
  cases h : evE P sq n .prod t with
  | none => rfl
  | some r =>
    have h1 := (ev_len _ _ _ _ (show ev P sq n (need .prod t) .prod t = some r from h)).1
    exact ev_enough (by simp only [need, rk]; omega)
theorem evE_prod_eq (t : By) : evE P sq n .prod t = (evE P sq n .fac t).bind fun r => evE P sq n (.prodL r.1) r.2 := by
  have e : evE P sq n .prod t = ev P sq n (8 * t.length + 3 + 1) .prod t := rfl
  rw [e, ev, ev_enough (m := .fac) (show need .fac t ≤ _ by simp only [need, rk]; omega)]
  cases h : evE P sq n .fac t with
  | none => rfl
  | some r =>
    have h1 := (ev_len _ _ _ _ (show ev P sq n (need .fac t) .fac t = some r from h)).1
    exact ev_enough (by simp only [need, rk]; omega)
theorem evE_sumL_none (o : List Int) {t : By} (h : nxt [43, 45] t = none) : evE P sq n (.sumL o) t = some (o, t) := by
  have e : evE P sq n (.sumL o) t = ev P sq n (8 * t.length + 4 + 1) (.sumL o) t := rfl
  rw [e, ev, h]
theorem evE_sumL_some (o : List Int) {t : By} {c : UInt8} {t' : By} (h : nxt [43, 45] t = some (c, t')) :
    evE P sq n (.sumL o) t = (evE P sq n .prod t').bind fun r => evE P sq n (.sumL (opL P sq c o r.1)) r.2 := by
  have e : evE P sq n (.sumL o) t = ev P sq n (8 * t.length + 4 + 1) (.sumL o) t := rfl
  rw [e, ev, h]
  obtain ⟨rfl, _⟩ := nxt_some h
  rw [List.length_cons]
  dsimp only
  rw [ev_enough (m := .prod) (show need .prod t' ≤ _ by simp only [need, rk]; omega)]
  cases h : evE P sq n .prod t' with
  | none => rfl
  | some r =>
    have h1 := (ev_len _ _ _ _ (show ev P sq n (need .prod t') .prod t' = some r from h)).1
    exact ev_enough (by simp only [need, rk]; omega)
theorem evE_prodL_none (o : List Int) {t : By} (h : nxt [42, 94, 46] t = none) : evE P sq n (.prodL o) t = some (o, t) := by
  have e : evE P sq n (.prodL o) t = ev P sq n (8 * t.length + 2 + 1) (.prodL o) t := rfl
  rw [e, ev, h]
theorem evE_prodL_some (o : List Int) {t : By} {c : UInt8} {t' : By} (h : nxt [42, 94, 46] t = some (c, t')) :
    evE P sq n (.prodL o) t = (evE P sq n .fac t').bind fun r => evE P sq n (.prodL (opL P sq c o r.1)) r.2 := by
  have e : evE P sq n (.prodL o) t = ev P sq n (8 * t.length + 2 + 1) (.prodL o) t := rfl
  rw [e, ev, h]
  obtain ⟨rfl, _⟩ := nxt_some h
  rw [List.length_cons]
  dsimp only
  rw [ev_enough (m := .fac) (show need .fac t' ≤ _ by simp only [need, rk]; omega)]
  cases h : evE P sq n .fac t' with
  | none => rfl
  | some r =>
    have h1 := (ev_len _ _ _ _ (show ev P sq n (need .fac t') .fac t' = some r from h)).1
    exact ev_enough (by simp only [need, rk]; omega)
theorem evE_fac_none {t : By} (h : nxt [45, 126] t = none) : evE P sq n .fac t = evE P sq n .atom t := by
  have e : evE P sq n .fac t = ev P sq n (8 * t.length + 1 + 1) .fac t := rfl
  rw [e, ev, h]
  exact ev_enough (by simp only [need, rk]; omega)
theorem evE_fac_some {t : By} {c : UInt8} {t' : By} (h : nxt [45, 126] t = some (c, t')) :
    evE P sq n .fac t = (evE P sq n .fac t').map fun r => (if c = 45 then scaleL P r.1 (-1) else revL P r.1, r.2) := by
  have e : evE P sq n .fac t = ev P sq n (8 * t.length + 1 + 1) .fac t := rfl
  rw [e, ev, h]
  obtain ⟨rfl, _⟩ := nxt_some h
  rw [List.length_cons]
  dsimp only
  rw [ev_enough (m := .fac) (show need .fac t' ≤ _ by simp only [need, rk]; omega)]
theorem evE_atom_num {t : By} (h : nxt [40, 101] t = none) : evE P sq n .atom t = (numF (digL t)).map fun (k : Nat) => (scaleL P (bladeL n 0) ((k : Int) % P), resL t) := by
  have e : evE P sq n .atom t = ev P sq n (8 * t.length + 0 + 1) .atom t := rfl
  rw [e, ev, h]
theorem evE_atom_bra {t t' : By} (h : nxt [40, 101] t = some (40, t')) : evE P sq n .atom t = (evE P sq n .sum t').bind fun r => (nxt [41] r.2).map fun q => (r.1, q.2) := by
  have e : evE P sq n .atom t = ev P sq n (8 * t.length + 0 + 1) .atom t := rfl
  rw [e, ev, h]
  obtain ⟨rfl, _⟩ := nxt_some h
  rw [List.length_cons]
  dsimp only
  rw [if_pos rfl, ev_enough (m := .sum) (show need .sum t' ≤ _ by simp only [need, rk]; omega)]
theorem evE_atom_name {t t' : By} (h : nxt [40, 101] t = some (101, t')) : evE P sq n .atom t = (maskOf n (101 :: digL t')).map fun (m : Nat) => (bladeL n m, resL t') := by
  have e : evE P sq n .atom t = ev P sq n (8 * t.length + 0 + 1) .atom t := rfl
  rw [e, ev, h]
  dsimp only
  rw [if_neg (by decide)]
theorem opL_add (c : UInt8) (a b : List Int) (h : c = 43 ∨ c = 45) : opL P sq c a b = plusL P a b (if c = 45 then -1 else 1) := by
  rcases h with rfl | rfl <;> rfl
theorem nxt_pm {t : By} {c : UInt8} {t' : By} (h : nxt [43, 45] t = some (c, t')) : c = 43 ∨ c = 45 := by
  have := (nxt_some h).2
  simpa using this
theorem nxt_op {t : By} {c : UInt8} {t' : By} (h : nxt [42, 94, 46] t = some (c, t')) : c = 42 ∨ c = 94 ∨ c = 46 := by
  have := (nxt_some h).2
  simpa using this
theorem nxt_sg {t : By} {c : UInt8} {t' : By} (h : nxt [45, 126] t = some (c, t')) : c = 45 ∨ c = 126 := by
  have := (nxt_some h).2
  simpa using this
theorem nxt_at {t : By} {c : UInt8} {t' : By} (h : nxt [40, 101] t = some (c, t')) : c = 40 ∨ c = 101 := by
  have := (nxt_some h).2
  simpa using this
theorem nxt_len {cs t : By} {c : UInt8} {t' : By} (h : nxt cs t = some (c, t')) : t.length = t'.length + 1 := by
  rw [(nxt_some h).1]; rfl
/-- What one sign less makes is the same by the remainder. -/
theorem scaleL_less (x : List Int) : scaleL P x (P - 1) = scaleL P x (-1) := by
  unfold scaleL
  refine List.map_congr_left fun a _ => ?_
  rw [show a * (P - 1) = a * (-1) + P * a by grind, Int.add_mul_emod_self_left]
end
end Go.Proofs.YticofgmmjecleaaGreatDoor
namespace Go.Proofs.YticofgmmjecleaaGreatDoor
open Go Go.RowKit
/-- Block R is a reader. -/
abbrev RdB (w : World) (R : Nat) (P : Int) (A : Option Addr) (n c : Nat) (t : By) (b : Bool) : Prop := Blk w R 111 #[.int .i64 P, .slice A n c, .string ⟨t.toArray⟩, .bool b]
theorem Blk.four {w : World} {g : Nat} {T : TypeId} {a b c d : Value} (h : Blk w g T #[a, b, c, d]) : w.cell? ⟨g, 0, none⟩ = some a ∧ w.cell? ⟨g, 1, none⟩ = some b ∧ w.cell? ⟨g, 2, none⟩ = some c ∧ w.cell? ⟨g, 3, none⟩ = some d := ⟨h.cell 0, h.cell 1, h.cell 2, h.cell 3⟩
theorem nxt_no {cs : By} {c : UInt8} {r : By} (h : nxt cs (c :: r) = none) : cs.contains c = false := by
  cases hc : cs.contains c with
  | false => rfl
  | true => simp only [nxt, hc, if_true] at h; cases h
set_option maxHeartbeats 1600000 in
set_option maxRecDepth 8000 in
theorem next_none (P : Int) (A : Option Addr) (n c : Nat) (t cs : By) (b : Bool) (R : Nat) (w : World) (he : Env w) (hcs : cs.length ≤ 100) (hk : RdB w R P A n c t b) (h : nxt cs t = none) :
    Calls Tryz.prog 122 #[.pointer (some ⟨R, 0, none⟩), .string ⟨cs.toArray⟩] w fun e w' => e = .returned (.int .u8 0) ∧ w = w' := by
  obtain ⟨q0, q1, q2, q3⟩ := hk.four
  cases t with
  | nil =>
    go_enter Tryz.func122, Tryz.ntmps122
    go_wp2
    go_ret
    exact ⟨rfl, rfl⟩
  | cons d r =>
    have hno := nxt_no h
    have hct := Contains_any cs [d] w (by omega) he
    rw [contains_one, hno] at hct
    have hto := str_to1 w (d :: r) (by simp)
    have htk : (d :: r).take 1 = [d] := rfl
    rw [htk] at hto
    obtain ⟨t, ht⟩ : ∃ t, t = d :: r := ⟨_, rfl⟩
    rw [← ht] at hto q2
    have hn1 : t.isEmpty = false := by rw [ht]; rfl
    have hn2 : (t == []) = false := by rw [ht]; rfl
    clear ht hk h hno htk
    go_enter Tryz.func122, Tryz.ntmps122
    go_wp2_with (go_at_call 150; refine hct.mono ?_; rintro e w1 ⟨rfl, rfl⟩)
    go_ret
    exact ⟨rfl, rfl⟩
set_option maxHeartbeats 1600000 in
set_option maxRecDepth 8000 in
theorem next_some (P : Int) (A : Option Addr) (n c : Nat) (t cs : By) (b : Bool) (R : Nat) (w : World) (d : UInt8) (r : By) (he : Env w) (hcs : cs.length ≤ 100) (hk : RdB w R P A n c t b) (h : nxt cs t = some (d, r)) :
    Calls Tryz.prog 122 #[.pointer (some ⟨R, 0, none⟩), .string ⟨cs.toArray⟩] w fun e w' => e = .returned (.int .u8 d.toNat) ∧ RdB w' R P A n c r b ∧ Ex R w w' := by
  obtain ⟨ht, hyes⟩ := nxt_some h
  obtain ⟨q0, q1, q2, q3⟩ := hk.four
  have f2 := hk.frozen 2
  have hct := Contains_any cs [d] w (by omega) he
  rw [contains_one, hyes] at hct
  have hto := str_to1 w t (by rw [ht]; simp)
  have hfr := str_from1 w t (by rw [ht]; simp)
  have hat := str_at0 w t (by rw [ht]; simp)
  have htk : t.take 1 = [d] := by rw [ht]; rfl
  have hdr : t.drop 1 = r := by rw [ht]; rfl
  have h0 : ∀ hl : 0 < t.length, t[0] = d := by subst ht; intro _; rfl
  rw [htk] at hto
  rw [hdr] at hfr
  rw [h0] at hat
  have hn1 : t.isEmpty = false := by rw [ht]; rfl
  have hn2 : (t == []) = false := by rw [ht]; rfl
  have HK := Lib.hid hk
  clear ht hk h hyes htk hdr h0
  go_enter Tryz.func122, Tryz.ntmps122
  go_wp2_with (go_at_call 150; refine hct.mono ?_; rintro e w1 ⟨rfl, rfl⟩)
  go_ret
  exact ⟨rfl, HK.out.set_ 2 _, Ex.set HK.out.lt 2 _⟩
theorem dig_take (t : By) : t.take (t.length - (resL t).length) = digL t := by
  have h := dig_res t
  have hl : t.length = (digL t).length + (resL t).length := by rw [← List.length_append, h]
  rw [show t.length - (resL t).length = (digL t).length by omega]
  have e : (digL t ++ resL t).take (digL t).length = digL t := List.take_left' rfl
  rw [h] at e
  exact e
theorem Ex.drewN {g : Nat} {w w' : World} (h : Ex g w w') (k : Nat) : Ex g w (w'.drewN k) := ⟨below_drewN h.b k, h.k⟩
set_option maxHeartbeats 1600000 in
set_option maxRecDepth 8000 in
theorem digits_any (P : Int) (A : Option Addr) (n c : Nat) (t : By) (b : Bool) (R : Nat) (w : World) (ht : t.length ≤ 1048576) (hk : RdB w R P A n c t b) :
    Calls Tryz.prog 187 #[.pointer (some ⟨R, 0, none⟩)] w fun e w' => e = .returned (.string ⟨(digL t).toArray⟩) ∧ RdB w' R P A n c (resL t) b ∧ Ex R w w' := by
  obtain ⟨q0, q1, q2, q3⟩ := hk.four
  have htr := TrimDig_any t w
  have hle := resL_len t
  have hx : (ByteArray.mk t.toArray).extract 0 (t.length - (resL t).length) = ⟨(digL t).toArray⟩ := by rw [ByteArray.extract_mk, List.drop_zero, Nat.sub_zero, dig_take]
  obtain ⟨u, hu⟩ : ∃ u, u = resL t := ⟨_, rfl⟩
  have HG := hk.lt
  rw [← hu] at htr hle hx ⊢
  clear hu
  have e1 : wrap64 ((t.length : Int) - (u.length : Int)) = ((t.length - u.length : Nat) : Int) := by unfold wrap64; omega
  have HK := Lib.hid hk
  clear hk q0 q1 q3 q2
  go_enter Tryz.func187, Tryz.ntmps187
  have q2 := HK.out.four.2.2.1
  go_wp2_with (go_at_call 194; refine htr.mono ?_; rintro e w1 ⟨rfl, hb1⟩)
  have hk1 := HK.out.below hb1 HG
  clear q2
  obtain ⟨q0, q1, q2, q3⟩ := hk1.four
  have f2 := hk1.frozen 2
  have HE := Lib.hid (fun nq => (Ex.of_below hb1 (Nat.le_of_lt HG)).drewN nq)
  have HK2 := Lib.hid hk1
  clear hb1 hk1
  go_quiet (fail)
  go_wp2
  go_ret
  exact ⟨rfl, Blk.set_ (w := w1.drewN nq) HK2.out 2 _, (HE.out nq).trans (Ex.set (w := w1.drewN nq) HK2.out.lt 2 _)⟩
set_option maxHeartbeats 1600000 in
set_option maxRecDepth 8000 in
theorem fail_any (P : Int) (A : Option Addr) (n c : Nat) (t : By) (b : Bool) (R : Nat) (w : World) (hn : n ≤ 6) (hk : RdB w R P A n c t b) :
    Calls Tryz.prog 186 #[.pointer (some ⟨R, 0, none⟩)] w fun e w' => ∃ A' c', e = .returned (.slice A' (pw n) c') ∧ RdB w' R P A n c t true ∧ Own w' w.heap.size 2 A' (pw n) c' (ints (List.replicate (pw n) 0)) ∧ Ex R w w' := by
  have f3 := hk.frozen 3
  have q3 := hk.cell 3
  have hk1 : RdB (w.setCell ⟨R, 3, none⟩ (.bool true)) R P A n c t true := hk.set_ 3 _
  have he1 : Ex R w (w.setCell ⟨R, 3, none⟩ (.bool true)) := Ex.set hk.lt 3 _
  have hno := fun w => nothing_any P A n c w (show n ≤ 10 by omega)
  have HG := hk.lt
  go_enter Tryz.func186, Tryz.ntmps186
  obtain ⟨q0, q1, q2, -⟩ := hk1.four
  have HK1 := Lib.hid hk1
  have HE1 := Lib.hid he1
  clear hk1 he1 hk
  go_wp2_with (go_at_call 55; refine (hno _).mono ?_; rintro e w2 ⟨A2, c2, rfl, hM⟩)
  go_ret
  exact ⟨A2, c2, rfl, HK1.out.below hM.b HK1.out.lt, hM.2.base (Nat.le_of_eq (by simp)), HE1.out.then hM.b (Nat.le_of_lt HG)⟩
end Go.Proofs.YticofgmmjecleaaGreatDoor
namespace Go.Proofs.YticofgmmjecleaaGreatDoor
open Go Go.RowKit
/-- Block R is a reader of the reference. -/
abbrev RsB (w : World) (R : Nat) (P : Int) (A : Option Addr) (n c : Nat) (T : By) (i : Nat) (b : Bool) : Prop := Blk w R 105 #[.int .i64 P, .slice A n c, .string ⟨T.toArray⟩, .int .i64 i, .bool b]
theorem Blk.five {w : World} {g : Nat} {T : TypeId} {a b c d e : Value} (h : Blk w g T #[a, b, c, d, e]) : w.cell? ⟨g, 0, none⟩ = some a ∧ w.cell? ⟨g, 1, none⟩ = some b ∧ w.cell? ⟨g, 2, none⟩ = some c ∧ w.cell? ⟨g, 3, none⟩ = some d ∧ w.cell? ⟨g, 4, none⟩ = some e := ⟨h.cell 0, h.cell 1, h.cell 2, h.cell 3, h.cell 4⟩
/-- The next byte, or 0. -/
def pk (t : By) : UInt8 := t.headD 0
theorem pk_at {T : By} {i : Nat} (h : i < T.length) : pk (T.drop i) = T[i] := by rw [List.drop_eq_getElem_cons h]; rfl
theorem pk_end {T : By} {i : Nat} (h : T.length ≤ i) : pk (T.drop i) = 0 := by rw [List.drop_eq_nil_of_le h]; rfl
theorem nxt_of_pk {cs t : By} (h0 : cs.contains 0 = false) : nxt cs t = if cs.contains (pk t) = true then some (pk t, t.tail) else none := by
  cases t with
  | nil => show none = if cs.contains 0 = true then _ else _; rw [h0]; rfl
  | cons c r => rfl
theorem drop_tail {T : By} {i : Nat} : (T.drop i).tail = T.drop (i + 1) := by rw [List.tail_drop]
theorem pk_ne_end {T : By} {i : Nat} (h : pk (T.drop i) ≠ 0) : i < T.length := by
  rcases Nat.lt_or_ge i T.length with hl | hl
  · exact hl
  · exact absurd (pk_end hl) h
set_option maxHeartbeats 1600000 in
set_option maxRecDepth 8000 in
theorem peek_any (P : Int) (A : Option Addr) (n c : Nat) (T : By) (i : Nat) (b : Bool) (R : Nat) (w : World) (hT : T.length ≤ 1048576) (hk : RsB w R P A n c T i b) :
    Calls Tryz.prog 120 #[.pointer (some ⟨R, 0, none⟩)] w fun e w' => e = .returned (.int .u8 (pk (T.drop i)).toNat) ∧ Below w.heap.size w w' := by
  obtain ⟨q0, q1, q2, q3, q4⟩ := hk.five
  by_cases hi : i < T.length
  · have d1 : decide ((i : Int) < (T.length : Int)) = true := by simp; omega
    rw [pk_at hi]
    have i1 : (0 : Int) ≤ (i : Int) := by omega
    have i2 : (i : Int) < (T.length : Int) := by omega
    go_enter Tryz.func120, Tryz.ntmps120
    go_wp2
    go_quiet (fail)
    go_wp2
    go_quiet (fail)
    go_wp2
    go_ret
    exact ⟨rfl, below_drewN (below_drewN (Below.refl _ _) _) _⟩
  · have d1 : decide ((i : Int) < (T.length : Int)) = false := by simp; omega
    rw [pk_end (by omega)]
    go_enter Tryz.func120, Tryz.ntmps120
    go_wp2
    go_quiet (fail)
    go_wp2
    go_ret
    exact ⟨rfl, below_drewN (Below.refl _ _) _⟩
theorem dig_head : ∀ (t : By) (j : Nat), j < (digL t).length → 48 ≤ (pk (t.drop j)).toNat ∧ (pk (t.drop j)).toNat ≤ 57
  | [], j, h => absurd h (by simp [digL])
  | c :: r, j, h => by
    unfold digL at h
    rw [List.takeWhile_cons] at h
    split at h
    · rename_i hc
      cases j with
      | zero => exact (decs_iff c).1 hc
      | succ j => exact dig_head r j (by simpa [digL] using h)
    · simp at h
theorem res_head : ∀ t : By, ¬ (48 ≤ (pk (resL t)).toNat ∧ (pk (resL t)).toNat ≤ 57)
  | [] => by decide
  | c :: r => by
    unfold resL
    rw [List.dropWhile_cons]
    split
    · exact res_head r
    · rename_i hc
      intro h
      exact hc ((decs_iff c).2 h)
theorem drop_dig (t : By) : t.drop (digL t).length = resL t := by
  have h := dig_res t
  have e : (digL t ++ resL t).drop (digL t).length = resL t := List.drop_left' rfl
  rw [h] at e
  exact e
theorem dig_le (t : By) : (digL t).length ≤ t.length := by have := congrArg List.length (dig_res t); rw [List.length_append] at this; omega
theorem take_dig (t : By) : t.take (digL t).length = digL t := by
  have h := dig_res t
  have e : (digL t ++ resL t).take (digL t).length = digL t := List.take_left' rfl
  rw [h] at e
  exact e
set_option maxHeartbeats 3200000 in
set_option maxRecDepth 8000 in
theorem sdigits_any (P : Int) (A : Option Addr) (n c : Nat) (T : By) (i : Nat) (b : Bool) (R : Nat) (w : World) (hT : T.length ≤ 1048576) (hi : i ≤ T.length) (hk : RsB w R P A n c T i b) :
    Calls Tryz.prog 184 #[.pointer (some ⟨R, 0, none⟩)] w fun e w' => e = .returned (.string ⟨(digL (T.drop i)).toArray⟩) ∧ RsB w' R P A n c T (i + (digL (T.drop i)).length) b ∧ Ex R w w' := by
  have hle := dig_le (T.drop i)
  rw [List.length_drop] at hle
  have hx : (ByteArray.mk T.toArray).extract i (i + (digL (T.drop i)).length) = ⟨(digL (T.drop i)).toArray⟩ := by rw [ByteArray.extract_mk, Nat.add_sub_cancel_left, take_dig]
  have hdig := fun m (hm1 : i ≤ m) (hm2 : m < i + (digL (T.drop i)).length) => (show 48 ≤ (pk (T.drop m)).toNat ∧ (pk (T.drop m)).toNat ≤ 57 by
    have := dig_head (T.drop i) (m - i) (by omega); rwa [List.drop_drop, show i + (m - i) = m by omega] at this)
  have hend : ¬ (48 ≤ (pk (T.drop (i + (digL (T.drop i)).length))).toNat ∧ (pk (T.drop (i + (digL (T.drop i)).length))).toNat ≤ 57) := by
    have := res_head (T.drop i); rwa [← drop_dig, List.drop_drop] at this
  obtain ⟨D, hD⟩ : ∃ D, D = digL (T.drop i) := ⟨_, rfl⟩
  rw [← hD] at hle hx hdig hend ⊢
  obtain ⟨L, hL⟩ : ∃ L, L = D.length := ⟨_, rfl⟩
  rw [← hL] at hle hx hdig hend ⊢
  have HDIG := Lib.hid hdig
  have HEND := Lib.hid hend
  have HX := Lib.hid hx
  clear hD hL hdig hend hx
  have q3 := hk.cell 3
  have HG := hk.lt
  go_enter Tryz.func184, Tryz.ntmps184
  go_wp2
  go_loopw [] (fun wr => ∃ m : Nat, i ≤ m ∧ m ≤ i + L ∧ RsB wr R P A n c T m b ∧ Ex R w wr) (fun wr => match wr.cell? ⟨R, 3, none⟩ with | some (.int _ x) => i + L - x.toNat | _ => 0)
  case atStart => exact ⟨i, by omega, by omega, hk, Ex.refl _ _⟩
  case round =>
    obtain ⟨m, hm1, hm2, hkr, hE⟩ := hrel
    clear hk q3
    have hms : (match wr.cell? ⟨R, 3, none⟩ with | some (.int _ x) => i + L - x.toNat | _ => 0) = i + L - m := by rw [hkr.cell 3]; rfl
    rw [hms]
    clear hms
    have hp1 := peek_any P A n c T m b R wr hT hkr
    have hp2 : ∀ wx, Below wr.heap.size wr wx → _ := fun wx hb => peek_any P A n c T m b R wx hT (hkr.below hb hkr.lt)
    by_cases hlt : m < i + L
    · obtain ⟨d1, d2⟩ := HDIG.out m hm1 hlt
      obtain ⟨x, hx⟩ : ∃ x : Nat, x = (pk (T.drop m)).toNat := ⟨_, rfl⟩
      rw [← hx] at hp1 hp2 d1 d2
      have c1 : decide ((48 : Int) ≤ (x : Int)) = true := by simp; omega
      have c2 : decide ((x : Int) ≤ 57) = true := by simp; omega
      clear hx
      go_wp2_with fail
      refine hp1.mono ?_
      rintro e w2 ⟨rfl, hb2⟩
      go_wp2_with fail
      refine (hp2 _ hb2).mono ?_
      rintro e w3 ⟨rfl, hb3⟩
      have hb4 := hb2.trans (hb3.mono hb2.size)
      have hk4 := hkr.below hb4 hkr.lt
      have hE4 := hE.then hb4 (Nat.le_of_lt HG)
      clear hp1 hp2 hb2 hb3 hb4 hkr hE
      have q3 := hk4.cell 3
      have f3 := hk4.frozen 3
      have W1 : wrap64 ((m : Int) + 1) = (m : Int) + 1 := by unfold wrap64; omega
      have HK4 := Lib.hid hk4
      clear hk4
      go_wp2
      go_roundw
      case rel => exact ⟨m + 1, by omega, by omega, HK4.out.set_ 3 _, hE4.trans (Ex.set HK4.out.lt 3 _)⟩
      case measure =>
        rw [(HK4.out.set_ 3 _).cell 3]
        show i + L - ((m : Int) + 1).toNat < _
        omega
    · obtain rfl : m = i + L := by omega
      have hne := HEND.out
      obtain ⟨x, hx⟩ : ∃ x : Nat, x = (pk (T.drop (i + L))).toNat := ⟨_, rfl⟩
      rw [← hx] at hp1 hp2 hne
      clear hx
      obtain ⟨m, hm⟩ : ∃ m, m = i + L := ⟨_, rfl⟩
      rw [← hm] at hkr hm2 HX
      have hml : m ≤ T.length := by omega
      have HM := Lib.hid hm
      have b1 : (0 : Int) ≤ (i : Int) := by omega
      have b2 : (i : Int) ≤ (m : Int) := by omega
      have b3 : (m : Int) ≤ (T.length : Int) := by omega
      have b4 : i ≤ m := by omega
      clear hm HDIG HEND
      by_cases h48 : x < 48
      · have c1 : decide ((48 : Int) ≤ (x : Int)) = false := by simp; omega
        go_wp2_with fail
        refine hp1.mono ?_
        rintro e w2 ⟨rfl, hb2⟩
        have hk2 := hkr.below hb2 hkr.lt
        have hE2 := hE.then hb2 (Nat.le_of_lt HG)
        clear hp1 hp2 hb2 hkr hE
        obtain ⟨q0, q1, q2, q3, q4⟩ := hk2.five
        have HK2 := Lib.hid hk2
        clear hk2
        go_wp2
        go_quiet (fail)
        go_wp2
        go_ret
        exact ⟨congrArg (fun z => Ending.returned (Value.string z)) HX.out, by rw [HM.out] at HK2; exact HK2.out, hE2.drewN _⟩
      · have c1 : decide ((48 : Int) ≤ (x : Int)) = true := by simp; omega
        have c2 : decide ((x : Int) ≤ 57) = false := by simp; omega
        go_wp2_with fail
        refine hp1.mono ?_
        rintro e w2 ⟨rfl, hb2⟩
        go_wp2_with fail
        refine (hp2 _ hb2).mono ?_
        rintro e w3 ⟨rfl, hb3⟩
        have hb4 := hb2.trans (hb3.mono hb2.size)
        have hk2 := hkr.below hb4 hkr.lt
        have hE2 := hE.then hb4 (Nat.le_of_lt HG)
        clear hp1 hp2 hb2 hb3 hb4 hkr hE
        obtain ⟨q0, q1, q2, q3, q4⟩ := hk2.five
        have HK2 := Lib.hid hk2
        clear hk2
        go_wp2
        go_quiet (fail)
        go_wp2
        go_ret
        exact ⟨congrArg (fun z => Ending.returned (Value.string z)) HX.out, by rw [HM.out] at HK2; exact HK2.out, hE2.drewN _⟩
/-- The number of a word, or -1. -/
def isDg (c : UInt8) : Bool := decide (48 ≤ c.toNat ∧ c.toNat ≤ 57)
def valG (u : By) : Int := if u = [] ∨ 9 < u.length ∨ (1 < u.length ∧ u.head? = some 48) then -1 else if u.all isDg = true then (spell u : Int) else -1
theorem valG_dig {u : By} (h : allD u) : valG u = valV u := by
  unfold valG valV numF
  by_cases h1 : u = [] ∨ 9 < u.length ∨ (1 < u.length ∧ u.head? = some 48)
  · rw [if_pos h1, if_pos h1]
  · rw [if_neg h1, if_neg h1, if_pos (List.all_eq_true.2 fun c hc => by unfold isDg; exact decide_eq_true (h c hc))]
theorem spell_small {u : By} {k : Nat} (hk : k ≤ u.length) (h9 : u.length ≤ 9) (hd : ∀ j (hj : j < k), isDg (u[j]'(by omega)) = true) : spell (u.take k) < 10 ^ k := by
  have ha : allD (u.take k) := fun c hc => by
    obtain ⟨j, hj, rfl⟩ := List.mem_iff_getElem.1 hc
    rw [List.length_take] at hj
    have := hd j (by omega)
    unfold isDg at this
    rw [List.getElem_take]
    exact of_decide_eq_true this
  have := spl_lt (u.take k) 0 0 ha (by decide)
  rw [Nat.zero_add, List.length_take, Nat.min_eq_left hk] at this
  exact this
set_option maxHeartbeats 3200000 in
set_option maxRecDepth 8000 in
theorem l01Value_any (u : By) (w : World) (hu : u.length ≤ 1048576) :
    Calls Tryz.prog 185 #[.string ⟨u.toArray⟩] w fun e w' => e = .returned (.int .i64 (valG u)) ∧ w = w' := by
  have hln := fun ty => str_len w ty u
  by_cases h0 : u = []
  · subst h0
    go_enter Tryz.func185, Tryz.ntmps185
    go_wp2
    go_ret
    exact ⟨rfl, rfl⟩
  have hpos : 0 < u.length := List.length_pos_iff.2 h0
  have d0 : ((u.length : Int) == 0) = false := by simp; omega
  obtain ⟨V, hV⟩ : ∃ V, V = valG u := ⟨_, rfl⟩
  have HV := Lib.hid hV
  rw [← hV]
  clear hV
  by_cases h9 : 9 < u.length
  · have d9 : decide ((9 : Int) < (u.length : Int)) = true := by simp; omega
    have hv : Hid (V = -1) := Lib.hid (by rw [HV.out]; unfold valG; rw [if_pos (Or.inr (Or.inl h9))])
    go_enter Tryz.func185, Tryz.ntmps185
    go_wp2
    go_ret
    exact ⟨by rw [hv.out]; rfl, rfl⟩
  have d9 : decide ((9 : Int) < (u.length : Int)) = false := by simp; omega
  have hat0 := str_at0 w u hpos
  have hhd : u.head? = some u[0] := by cases u with | nil => exact absurd rfl h0 | cons c r => rfl
  by_cases hz : 1 < u.length ∧ u[0] = 48
  · have d1 : decide ((1 : Int) < (u.length : Int)) = true := by simp; omega
    have hv : Hid (V = -1) := Lib.hid (by rw [HV.out]; unfold valG; rw [if_pos (Or.inr (Or.inr ⟨hz.1, by rw [hhd, hz.2]⟩))])
    rw [hz.2] at hat0
    clear h0 hhd hz
    go_enter Tryz.func185, Tryz.ntmps185
    go_wp2
    go_ret
    exact ⟨by rw [hv.out]; rfl, rfl⟩
  have HV2 : Hid (V = if u.all isDg = true then (spell u : Int) else -1) := Lib.hid (by
    rw [HV.out]; unfold valG
    rw [if_neg (fun h => h.elim h0 fun h => h.elim h9 fun h => hz ⟨h.1, by have := h.2; rw [hhd] at this; injection this⟩)])
  have hstart : ∀ Q : Prop, (decide ((1 : Int) < (u.length : Int)) = false → Q) → (decide ((1 : Int) < (u.length : Int)) = true → (((u[0]).toNat : Int) == 48) = false → Q) → Q := fun Q q1 q2 => by
    by_cases h1 : 1 < u.length
    · refine q2 (by simp; omega) ?_
      have hne : u[0] ≠ 48 := fun e => hz ⟨h1, e⟩
      have : (u[0]).toNat ≠ 48 := fun e => hne (UInt8.toNat_inj.1 e)
      simp; omega
    · exact q1 (by simp; omega)
  clear hhd hz HV
  have hatk : ∀ k (hk : k < u.length), (Instr.index 9 (.string ⟨u.toArray⟩) (.int .i64 (k : Int))).run Tryz.prog w = .ok (.int .u8 (u[k]).toNat) w := fun k hk => str_at w u k hk
  obtain ⟨x0, hx0⟩ : ∃ x0 : Nat, x0 = (u[0]).toNat := ⟨_, rfl⟩
  rw [← hx0] at hat0
  simp only [← hx0] at hstart
  clear hx0
  have HAT := Lib.hid hatk
  clear hatk h0
  refine hstart _ (fun d1 => ?_) (fun d1 d48 => ?_)
  all_goals
    clear hstart
    go_enter Tryz.func185, Tryz.ntmps185
    go_wp2
    go_loop [3, 4] (fun s i => ∃ k : Nat, k ≤ u.length ∧ i = .int .i64 k ∧ s = .int .i64 (spell (u.take k) : Nat) ∧ Hid (∀ j (hj : j < k) (hl : j < u.length), isDg u[j] = true)) (fun _ i => u.length - (intOf i).toNat)
    case atStart => exact ⟨0, by omega, rfl, rfl, Lib.hid fun j hj => absurd hj (by omega)⟩
    case round =>
      obtain ⟨k, hk, rfl, rfl, hD⟩ := hrel
      by_cases hlt : k < u.length
      · have hat := HAT.out k hlt
        have hsm := spell_small hk (by omega) (fun j hj => hD.out j hj (by omega))
        have hsm9 : spell (u.take k) < 100000000 := Nat.lt_of_lt_of_le hsm (Nat.le_trans (Nat.pow_le_pow_right (n := 10) (by decide) (show k ≤ 8 by omega)) (by decide))
        have hst := spell_take hlt
        have hisd : isDg u[k] = decide (48 ≤ (u[k]).toNat ∧ (u[k]).toNat ≤ 57) := rfl
        have hlt8 : (u[k]).toNat < 256 := (u[k]).toNat_lt
        have hnall : isDg u[k] = false → u.all isDg = false := fun h => by
          rw [Bool.eq_false_iff]; intro ha
          rw [List.all_eq_true.1 ha _ (List.getElem_mem hlt)] at h; cases h
        obtain ⟨x, hx⟩ : ∃ x : Nat, x = (u[k]).toNat := ⟨_, rfl⟩
        obtain ⟨bd, hbd⟩ : ∃ bd, bd = isDg u[k] := ⟨_, rfl⟩
        rw [← hx] at hat hst hisd hlt8
        rw [← hbd] at hisd hnall
        have HBD := Lib.hid hbd
        have HST := Lib.hid hst
        obtain ⟨S, hS⟩ : ∃ S, S = spell (u.take k) := ⟨_, rfl⟩
        rw [← hS] at hsm9 HST ⊢
        clear hS hsm hbd hx hst
        by_cases h48 : x < 48
        · have c1 : decide ((x : Int) < 48) = true := by simp; omega
          have hv : Hid (V = -1) := Lib.hid (by rw [HV2.out, hnall (by rw [hisd]; simp; omega)]; rfl)
          clear hisd hnall
          go_wp2
          go_ret
          exact ⟨by rw [hv.out]; rfl, rfl⟩
        · have c1 : decide ((x : Int) < 48) = false := by simp; omega
          by_cases h57 : 57 < x
          · have c2 : decide ((57 : Int) < (x : Int)) = true := by simp; omega
            have hv : Hid (V = -1) := Lib.hid (by rw [HV2.out, hnall (by rw [hisd]; simp; omega)]; rfl)
            clear hisd hnall
            go_wp2
            go_ret
            exact ⟨by rw [hv.out]; rfl, rfl⟩
          · have c2 : decide ((57 : Int) < (x : Int)) = false := by simp; omega
            have hbt : Hid (bd = true) := Lib.hid (by rw [hisd]; exact decide_eq_true ⟨by omega, by omega⟩)
            have U1 : IntKind.u8.wrap ((x : Int) - 48) = (x : Int) - 48 := by
              have e : IntKind.u8.wrap ((x : Int) - 48) = ((x : Int) - 48) % 256 := rfl
              rw [e]; omega
            have W1 : wrap64 ((S : Int) * 10) = (S : Int) * 10 := by unfold wrap64; omega
            have W2 : wrap64 ((S : Int) * 10 + ((x : Int) - 48)) = (S : Int) * 10 + ((x : Int) - 48) := by unfold wrap64; omega
            have W3 : wrap64 ((x : Int) - 48) = (x : Int) - 48 := by unfold wrap64; omega
            have W4 : IntKind.i64.wrap ((x : Int) - 48) = (x : Int) - 48 := by rw [IntWalk.i64_left]; exact W3
            clear hisd hnall
            go_wp2
            go_round
            case rel =>
              refine ⟨k + 1, by omega, by go_num, by rw [HST.out]; exact congrArg _ (by omega), Lib.hid fun j hj hl => ?_⟩
              by_cases e : j = k
              · subst e; rw [← HBD.out]; exact hbt.out
              · exact hD.out j (by omega) hl
            case measure => simp [intOf]; omega
      · obtain rfl : k = u.length := by omega
        have hv : Hid (V = (spell u : Int)) := Lib.hid (by
          rw [HV2.out, if_pos (List.all_eq_true.2 fun c hc => by obtain ⟨j, hj, rfl⟩ := List.mem_iff_getElem.1 hc; exact hD.out j hj hj)])
        rw [List.take_length]
        go_wp2
        go_ret
        exact ⟨by rw [hv.out]; rfl, rfl⟩
end Go.Proofs.YticofgmmjecleaaGreatDoor

/-
  LawFnOrthogonalOrders: part 4 of the texts that the proof needs. No condition.
-/
import Derived.Test.YtmkjdpnoloofjaaGreatR3
namespace Go.Proofs.YtmkjdpnoloofjaaGreat
open Go.RowKit
theorem lead_lt_iff (v : List Int) : leadL v < v.length ↔ ∃ i, i < v.length ∧ v.getD i 0 ≠ 0 := by
 constructor
 · intro h; exact ⟨leadL v, h, leadL_at v h⟩
 · rintro ⟨i, hi, hne⟩
   rcases Nat.lt_or_ge i (leadL v) with h | h
   · exact absurd (leadL_before v i h) hne
   · omega
theorem firstL_part (xs : List Int) (k : Nat) : decide (0 ≤ firstL (partG xs k)) = hasG xs k := by
 rw [Bool.eq_iff_iff, decide_eq_true_eq, hasG_iff]
 have h := lead_lt_iff (partG xs k)
 rw [partG_len] at h
 unfold firstL
 rw [partG_len]
 constructor
 · intro h0
   by_cases hl : leadL (partG xs k) < xs.length
   · obtain ⟨i, hi, hne⟩ := h.1 hl
     rw [partG_getD hi] at hne
     by_cases hp : pc i = k
     · rw [if_pos hp] at hne; exact ⟨i, hi, hne, hp⟩
     · rw [if_neg hp] at hne; exact absurd rfl hne
   · rw [if_neg hl] at h0; omega
 · rintro ⟨i, hi, hne, hp⟩
   rw [if_pos (h.2 ⟨i, hi, by rw [partG_getD hi, if_pos hp]; exact hne⟩)]
   omega
theorem gradesL_n (xs : List Int) (n : Nat) (hn : n ≤ 6) (hx : xs.length = pw n) : ((List.range (n + 1)).filter (hasG xs)).map (fun k : Nat => (k : Int)) = gradesL xs := by
 unfold gradesL
 congr 1
 have h : ∀ j, n + 1 + j ≤ 7 → (List.range (n + 1 + j)).filter (hasG xs) = (List.range (n + 1)).filter (hasG xs) := by
  intro j
  induction j with
  | zero => intro _; rfl
  | succ j ih =>
   intro hj
   rw [show n + 1 + (j + 1) = (n + 1 + j) + 1 by omega, List.range_succ, List.filter_append, ih (by omega)]
   have : hasG xs (n + 1 + j) = false := by
    rw [Bool.eq_false_iff]
    intro hh
    obtain ⟨i, hi, _, hp⟩ := (hasG_iff _ _).1 hh
    have := pc_le n i (by rw [hx] at hi; exact hi)
    omega
   simp [this]
 have := h (7 - (n + 1)) (by omega)
 rw [show n + 1 + (7 - (n + 1)) = 7 by omega] at this
 exact this.symm
/-- The grades up to k, collected. -/
def grT (xs : List Int) (k : Nat) : List Int := ((List.range k).filter (hasG xs)).map fun k : Nat => (k : Int)
theorem grT_succ (xs : List Int) (k : Nat) : grT xs (k + 1) = if hasG xs k then grT xs k ++ [(k : Int)] else grT xs k := by
 unfold grT
 rw [List.range_succ, List.filter_append, List.map_append, List.filter_cons, List.filter_nil]
 split
 · rfl
 · rw [List.map_nil, List.append_nil]
theorem grT_le (xs : List Int) (k : Nat) : (grT xs k).length ≤ k := by
 unfold grT
 rw [List.length_map]
 exact Nat.le_trans (List.length_filter_le _ _) (by simp)
set_option maxHeartbeats 800000 in
set_option maxRecDepth 8000 in
theorem l04Grades_any (P : Int) (A : Option Addr) (n c : Nat) (X : Option Addr) (cx : Nat) (xs : List Int) (w : World) (hn : n ≤ 6) (hx : Rd w X (pw n) (ints xs)) :
    Calls Tryz.prog 276 #[.agg #[.int .i64 P, .slice A n c], .slice X (pw n) cx] w fun e w' => ∃ A' c', e = .returned (.slice A' (gradesL xs).length c') ∧ MkI w w' A' (gradesL xs).length c' (gradesL xs) := by
 have hxl := hx.lenI
 have HPW64 : pw n ≤ 64 := pw_le hn
 have HG : Hid (grT xs (n + 1) = gradesL xs) := Lib.hid (gradesL_n xs n hn hxl)
 have hB0 : Below w.heap.size w (w.alloc (.cells #[.int .i64 P, .slice A n c] 26)) := (Below.refl _ w).alloc (Nat.le_refl _) _
 have k0 : Blk (w.alloc (.cells #[.int .i64 P, .slice A n c] 26)) w.heap.size 26 #[.int .i64 P, .slice A n c] := Blk.new w _ _
 have hM0 := Mk.lit (E := 2) hB0 #[] (by simp)
 have hM1 : MkI w ((w.alloc (.cells #[.int .i64 P, .slice A n c] 26)).alloc (.cells #[] 2)) (some ⟨w.heap.size + 1, 0, none⟩) 0 0 [] := by simpa [MkI, ints] using hM0
 have k1 := k0.alloc (.cells #[] 2)
 clear hxl
 go_enter Tryz.func276, Tryz.ntmps276
 go_wp2
 clear hM0 hB0 k0
 obtain ⟨w1, hw1⟩ : ∃ W, W = (w.alloc (.cells #[.int .i64 P, .slice A n c] 26)).alloc (.cells #[] 2) := ⟨_, rfl⟩
 rw [← hw1] at hM1 k1 ⊢
 clear hw1
 go_loopw [5, 6] (fun o i wr => ∃ (k : Nat) (A' : Option Addr) (c' : Nat), k ≤ n + 1 ∧ i = .int .i64 k ∧ o = .slice A' (grT xs k).length c' ∧ MkI w wr A' (grT xs k).length c' (grT xs k) ∧ Blk wr w.heap.size 26 #[.int .i64 P, .slice A n c]) (fun _ i _ => n + 1 - (intOf i).toNat)
 case atStart => exact ⟨0, _, _, by omega, rfl, rfl, by simpa [MkI, ints, grT] using hM1, k1⟩
 case round =>
  obtain ⟨k, A', c', hk, rfl, rfl, hM, hk2⟩ := hrel
  clear hM1 k1
  obtain ⟨q0, q1⟩ := hk2.two
  have HS := Lib.hid (grT_succ xs k)
  have hle := grT_le xs k
  have HT := Lib.hid (firstL_part xs k)
  by_cases hlt : k ≤ n
  · obtain ⟨l, hl⟩ : ∃ l, l = (grT xs k).length := ⟨_, rfl⟩
    rw [← hl] at hle hM ⊢
    have HL := Lib.hid hl
    have HR := Lib.hid (hx.below hM.b)
    have HM := Lib.hid hM
    clear hl hM
    cases hh : hasG xs k
    all_goals
     have HH := Lib.hid hh
     have hb : decide (0 ≤ firstL (partG xs k)) = hasG xs k := HT.out
     rw [hh] at hb
     clear hh
     go_wp2_with fail
     refine (l04Part_any _ _ _ _ _ _ HPW64 (by omega) HR.out).mono ?_
     rintro e w1 ⟨A1, c1, rfl, hP⟩
     have hk3 := hk2.below hP.b hk2.lt
     have HM2 := Lib.hid (HM.out.below hP.b)
     clear q0 q1
     obtain ⟨q0, q1⟩ := hk3.two
     go_wp2_with fail
     refine (l02First_any _ _ _ _ _ (by omega) hP.rd).mono ?_
     rintro e w2 ⟨rfl, rfl⟩
    · go_wp2
      go_roundw
      case rel =>
       have e : grT xs (k + 1) = grT xs k := by rw [HS.out, HH.out]; rfl
       exact ⟨k + 1, A', c', by omega, by go_num, by rw [e, ← HL.out], by rw [e, ← HL.out]; exact HM2.out, hk3⟩
      case measure => simp [intOf]; omega
    · go_wp2_with (at_builtin; refine wpList_app1 w _ 24 2 _ _ Tryz.underlying24 info_i rfl (by omega) rfl _ _ rfl A' l c' _ _ HM2.out (by omega) rfl rfl rfl ?_; intro A2 c2 w3 hM3 hgr _)
      have hk4 := hk3.grown hgr (HM2.out.2.ne_blk hk3 (by decide))
      go_roundw
      case rel =>
       have e : grT xs (k + 1) = grT xs k ++ [(k : Int)] := by rw [HS.out, HH.out]; rfl
       have el : (grT xs (k + 1)).length = l + 1 := by rw [e, List.length_append, HL.out]; rfl
       exact ⟨k + 1, A2, c2, by omega, by go_num, by rw [el], by rw [el, e]; simpa [MkI, ints] using hM3, hk4⟩
      case measure => simp [intOf]; omega
  · obtain rfl : k = n + 1 := by omega
    rw [HG.out] at hM ⊢
    go_wp2
    go_ret
    exact ⟨_, _, rfl, hM⟩
/-- Are there grades of both parities? -/
def mixB (gs : List Int) : Bool := gs.any fun g => g % (2 : Int) != gs.getD 0 0 % (2 : Int)
/-- The parity of the grades, or -1. -/
def evnV (gs : List Int) : Int := if mixB gs then -1 else gs.getD 0 0 % (2 : Int)
theorem evnV_neg {gs : List Int} (_h : ∀ g ∈ gs, 0 ≤ g) : decide (evnV gs < 0) = mixB gs := by
 unfold evnV
 cases mixB gs
 · simp only [Bool.false_eq_true, if_false, decide_eq_false_iff_not]; omega
 · rfl
set_option maxHeartbeats 800000 in
set_option maxRecDepth 8000 in
theorem l07Even_any (P : Int) (A : Option Addr) (n c : Nat) (X : Option Addr) (cx : Nat) (xs : List Int) (w : World) (hn : n ≤ 6) (hx : Rd w X (pw n) (ints xs)) :
    Calls Tryz.prog 260 #[.agg #[.int .i64 P, .slice A n c], .slice X (pw n) cx] w fun e w' => e = .returned (.int .i64 (evnV (gradesL xs))) ∧ Below w.heap.size w w' := by
 have hB0 : Below w.heap.size w (w.alloc (.cells #[.int .i64 P, .slice A n c] 26)) := (Below.refl _ w).alloc (Nat.le_refl _) _
 have hl7 := gradesL_len xs
 have hrg := gradesL_range xs
 go_enter Tryz.func260, Tryz.ntmps260
 go_wp2_with fail
 refine (l04Grades_any P A n c X cx xs _ hn (hx.below hB0)).mono ?_
 rintro e w1 ⟨A', c', rfl, hM⟩
 have hB1 := hB0.trans (hM.b.mono (by simp))
 obtain ⟨gs, hgs⟩ : ∃ gs, gs = gradesL xs := ⟨_, rfl⟩
 rw [← hgs] at hM hl7 hrg ⊢
 have HGS := Lib.hid hgs
 clear hgs
 obtain ⟨l, hl⟩ : ∃ l, l = gs.length := ⟨_, rfl⟩
 rw [← hl] at hM hl7 ⊢
 have HL := Lib.hid hl
 clear hl
 go_wp2_with fail
 go_loop [6, 7] (fun o i => ∃ (k : Nat) (q : Int), k ≤ l ∧ i = .int .i64 k ∧ o = .int .i64 q ∧ 0 ≤ q ∧ q ≤ 1 ∧ (k = 0 ∧ q = 0 ∨ q = gs.getD 0 0 % 2) ∧ (gs.take k).any (fun g => g % 2 != gs.getD 0 0 % 2) = false) (fun _ i => l - (intOf i).toNat)
 case atStart => exact ⟨0, 0, by omega, rfl, rfl, by omega, by omega, .inl ⟨rfl, rfl⟩, by simp⟩
 case round =>
  obtain ⟨k, q, hk, rfl, rfl, hq0, hq1, hq, ht⟩ := hrel
  have HT := Lib.hid ht
  clear ht
  by_cases hlt : k < l
  · obtain ⟨g, o, rfl, hxk, hcx⟩ := hM.rd.int hlt
    obtain ⟨g', o', e', hx0, hc0⟩ := hM.rd.int (show 0 < l by omega)
    injection e' with e'; injection e' with e1 e2 _
    subst e1; subst e2
    obtain ⟨r1, r2⟩ := hrg _ (List.getElem_mem hxk)
    obtain ⟨s1, s2⟩ := hrg _ (List.getElem_mem hx0)
    have HG0 : Hid (gs.getD 0 0 = gs[0]) := Lib.hid (getD_of_lt 0 hx0)
    rw [Nat.add_zero] at hc0
    cases hb : (gs[k] % (2 : Int) != gs[0] % (2 : Int))
    all_goals
     have HB := Lib.hid hb
     rcases Nat.eq_zero_or_pos k with hk0 | hk0
     · subst hk0
       rw [Nat.add_zero] at hcx
       clear hq
       go_wp2
       all_goals first
        | (exfalso; have := HB.out; simp at this; done)
        | (go_round
           case rel => exact ⟨0 + 1, _, by omega, by go_num, rfl, by omega, by omega, .inr (by rw [HG0.out]), any_take_succ (q := fun g => g % 2 != gs.getD 0 0 % 2) hxk HT.out (by rw [HG0.out]; exact HB.out)⟩
           case measure => simp [intOf]; omega)
     · have hqe : q = gs[0] % 2 := by rcases hq with h | h; (omega); (rw [h, HG0.out])
       have hb' : (gs[k] % (2 : Int) != q) = (gs[k] % (2 : Int) != gs[0] % (2 : Int)) := by rw [hqe]
       rw [hb] at hb'
       have HQ := Lib.hid hqe
       have hkb : ((k : Int) == 0) = false := by simp; omega
       clear hq hqe hb
       go_wp2
       all_goals first
        | (go_ret
           refine ⟨ret_int ?_, hB1⟩
           have : (gs.any fun g => g % 2 != gs.getD 0 0 % 2) = true := List.any_eq_true.2 ⟨gs[k], List.getElem_mem hxk, by rw [HG0.out]; exact HB.out⟩
           unfold evnV mixB
           rw [← HGS.out, this]; rfl)
        | (go_round
           case rel => exact ⟨k + 1, q, by omega, by go_num, rfl, by omega, by omega, .inr (by rw [HG0.out]; exact HQ.out), any_take_succ (q := fun g => g % 2 != gs.getD 0 0 % 2) hxk HT.out (by rw [HG0.out]; exact HB.out)⟩
           case measure => simp [intOf]; omega)
  · obtain rfl : k = l := by omega
    go_wp2
    go_ret
    refine ⟨ret_int ?_, hB1⟩
    have := HT.out
    rw [List.take_of_length_le (by rw [← HL.out]; omega)] at this
    unfold evnV mixB
    rw [← HGS.out, this]
    simp only [Bool.false_eq_true, if_false]
    rcases hq with ⟨h1, h2⟩ | h
    · have : gs = [] := List.eq_nil_of_length_eq_zero (by rw [← HL.out]; exact h1)
      rw [h2, this]; rfl
    · exact h
/-- The number of odd grades. -/
def cntO (gs : List Int) : Nat := (gs.filter fun g => g % (2 : Int) == 1).length
theorem cntO_le (gs : List Int) : cntO gs ≤ gs.length := List.length_filter_le _ _
theorem cntO_take {gs : List Int} {k : Nat} (hk : k < gs.length) (_h0 : 0 ≤ gs[k]) : ((cntO (gs.take (k + 1)) : Nat) : Int) = (cntO (gs.take k) : Nat) + gs[k] % 2 := by
 unfold cntO
 rw [List.take_succ_eq_append_getElem hk, List.filter_append, List.length_append, List.filter_cons, List.filter_nil]
 by_cases h : gs[k] % (2 : Int) = 1
 · rw [if_pos (by simpa using h), h]; simp
 · rw [if_neg (by simpa using h)]; simp; omega
theorem mix_cnt {gs : List Int} (hg : ∀ g ∈ gs, 0 ≤ g) : mixB gs = (((cntO gs : Nat) : Int) != 0 && ((cntO gs : Nat) : Int) != ((gs.length : Nat) : Int)) := by
 have h1 : cntO gs = 0 ↔ ∀ g ∈ gs, ¬ g % (2 : Int) = 1 := by
  unfold cntO
  rw [List.length_eq_zero_iff, List.filter_eq_nil_iff]
  simp
 have h2 : cntO gs = gs.length ↔ ∀ g ∈ gs, g % (2 : Int) = 1 := by
  unfold cntO
  rw [List.length_filter_eq_length_iff]
  simp
 rw [Bool.eq_iff_iff]
 simp only [Bool.and_eq_true, bne_iff_ne, ne_eq]
 unfold mixB
 rw [List.any_eq_true]
 constructor
 · rintro ⟨g, hm, hne⟩
   have hne := bne_iff_ne.1 hne
   have h0 : gs.getD 0 0 ∈ gs := by
    cases gs with
    | nil => cases hm
    | cons a r => simp
   have p1 := hg g hm
   have p2 := hg _ h0
   refine ⟨fun e => ?_, fun e => ?_⟩
   · have a1 := h1.1 (by omega) g hm
     have a2 := h1.1 (by omega) _ h0
     omega
   · have a1 := h2.1 (by omega) g hm
     have a2 := h2.1 (by omega) _ h0
     omega
 · rintro ⟨ha, hb⟩
   have ha' : ¬ ∀ g ∈ gs, ¬ g % (2 : Int) = 1 := fun h => ha (by rw [h1.2 h]; rfl)
   have hb' : ¬ ∀ g ∈ gs, g % (2 : Int) = 1 := fun h => hb (by rw [h2.2 h])
   by_cases hh : gs.getD 0 0 % (2 : Int) = 1
   · have : ∃ g ∈ gs, ¬ g % (2 : Int) = 1 := Classical.byContradiction fun hn => hb' fun g hm => Classical.byContradiction fun h => hn ⟨g, hm, h⟩
     obtain ⟨g, hm, h⟩ := this
     exact ⟨g, hm, bne_iff_ne.2 (by rw [hh]; exact h)⟩
   · have : ∃ g ∈ gs, g % (2 : Int) = 1 := Classical.byContradiction fun hn => ha' fun g hm h => hn ⟨g, hm, h⟩
     obtain ⟨g, hm, h⟩ := this
     exact ⟨g, hm, bne_iff_ne.2 (by rw [h]; exact fun e => hh e.symm)⟩
/-- What the sandwich makes of basis vector i, but for a factor. -/
def imgL (P : Int) (sq : List Int) (n : Nat) (xs : List Int) (i : Nat) : List Int := mulL P sq (mulL P sq (invoL P xs) (vecTo n (unitRow n i) n)) (revL P xs)
/-- Is it a versor? -/
def versB (P : Int) (sq : List Int) (n : Nat) (xs : List Int) : Bool :=
 !(nrmL P sq xs == 0) && onlyL (mulL P sq xs (revL P xs)) 0 && !(mixB (gradesL xs)) && (List.range n).all fun i => onlyL (imgL P sq n xs i) 1
theorem onlyL_part {p : Int} {ys : List Int} (hl : ys.length ≤ 64) (_hn : NumsL p ys) (k : Nat) : decide (ys = partG ys k) = onlyL ys k := by
 unfold onlyL
 rw [Bool.eq_iff_iff, decide_eq_true_eq, Bool.not_eq_true', List.any_eq_false]
 constructor
 · intro he g hg
   obtain ⟨i, hi, hne, rfl⟩ := (gradesL_mem ys hl g).1 hg
   have h1 : ys.getD i 0 = (partG ys k).getD i 0 := congrArg (fun l => l.getD i 0) he
   rw [partG_getD hi] at h1
   by_cases hp : pc i = k
   · simp [hp]
   · rw [if_neg hp] at h1; exact absurd h1 hne
 · intro h
   apply list_ext_getD 0 (partG_len _ _).symm
   intro i hi
   rw [partG_getD hi]
   by_cases hp : pc i = k
   · rw [if_pos hp]
   · rw [if_neg hp]
     refine Classical.byContradiction fun hne => ?_
     have := h _ ((gradesL_mem ys hl _).2 ⟨i, hi, hne, rfl⟩)
     exact this (bne_iff_ne.2 (by omega))
theorem pc_eq_zero : ∀ i, i < 64 → (pc i = 0 ↔ i = 0) := by decide +kernel
theorem onlyL_scalar {p : Int} {n : Nat} {ys : List Int} (hp : 2 ≤ p) (hn6 : n ≤ 6) (hl : ys.length = pw n) (hn : NumsL p ys) : decide (ys = scaleL p (bladeL n 0) (ys.getD 0 0)) = onlyL ys 0 := by
 have h64 : pw n ≤ 64 := pw_le hn6
 refine Eq.trans ?_ (onlyL_part (k := 0) (by omega) hn)
 have e : scaleL p (bladeL n 0) (ys.getD 0 0) = partG ys 0 := by
  apply list_ext_getD 0 (by rw [scaleL_len, bladeL_len, partG_len, hl])
  intro i hi
  rw [scaleL_len, bladeL_len] at hi
  rw [scaleL_getD _ (by rw [bladeL_len]; exact hi), bladeL_getD n 0 i hi, partG_getD (by omega)]
  obtain ⟨b1, b2⟩ := hn.getD (by omega) 0
  by_cases h : i = 0
  · subst h
    rw [if_pos rfl, if_pos pc_zero, Int.one_mul]
    exact Int.emod_eq_of_lt b1 b2
  · rw [if_neg (fun e => h e.symm), if_neg (fun e => h ((pc_eq_zero i (by omega)).1 e)), Int.zero_mul]; rfl
 rw [e]
theorem onlyGrade_b {b : Bool} (X : Option Addr) (m cx : Nat) (xs : List Int) (k : Int) (w : World) (hm : m ≤ 64) (hx : Rd w X m (ints xs)) (h : onlyL xs k = b) :
    Calls Tryz.prog 174 #[.slice X m cx, .int .i64 k] w fun e w' => e = .returned (.bool b) ∧ Below w.heap.size w w' := h ▸ onlyGrade_any X m cx xs k w hm hx
theorem unitM_getD {n i : Nat} (h : i < n) : (unitM n).getD i [] = unitRow n i := by
 rw [getD_of_lt [] (by rw [unitM_len]; exact h), unitM_get]
set_option maxHeartbeats 3200000 in
set_option maxRecDepth 8000 in
theorem isVersor_A (P : Int) (A : Option Addr) (n c : Nat) (sq : List Int) (X : Option Addr) (cx : Nat) (xs : List Int) (w : World) (hp : 2 ≤ P) (hp2 : P ≤ 13) (hn : n ≤ 6) (ha : Rd w A n (ints sq)) (hs : NumsL P sq) (hx : Rd w X (pw n) (ints xs)) (hxs : NumsL P xs) (hcx : pw n ≤ cx) (h1 : nrmL P sq xs = 0) :
    Calls Tryz.prog 98 #[.agg #[.int .i64 P, .slice A n c], .slice X (pw n) cx] w fun e w' => e = .returned (.bool (versB P sq n xs)) ∧ Below w.heap.size w w' := by
 have hB0 : Below w.heap.size w (w.alloc (.cells #[.int .i64 P, .slice A n c] 26)) := zG.alloc (Nat.le_refl _) _
 have k0 : Blk (w.alloc (.cells #[.int .i64 P, .slice A n c] 26)) w.heap.size 26 #[.int .i64 P, .slice A n c] := Blk.new _ _ _
 have HPW : pw n ≤ 65536 := Nat.le_trans (pw_le (show n ≤ 10 by omega)) (by decide)
 have HPW64 : pw n ≤ 64 := pw_le hn
 have hl7 := gradesL_len xs
 have hrg := gradesL_range xs
 have HT2 : Hid (timesL P sq n [xs, revL P xs] = mulL P sq xs (revL P xs)) := Lib.hid (timesL_two P sq n _ _ hx.lenI hxs)
 obtain ⟨gs, hgs⟩ : ∃ gs, gs = gradesL xs := ⟨_, rfl⟩
 have HGS := Lib.hid hgs
 rw [← hgs] at hl7 hrg
 have HMC : Hid (mixB gs = (((cntO gs : Nat) : Int) != 0 && ((cntO gs : Nat) : Int) != ((gs.length : Nat) : Int))) := Lib.hid (mix_cnt fun g hg => (hrg g hg).1)
 clear hgs
 have b1 : (nrmL P sq xs == 0) = true := by rw [h1]; rfl
 have H1 := Lib.hid b1
 clear h1
 · skip
   go_enter Tryz.func98, Tryz.ntmps98
   go_wp2_with fail
   refine (gradesOf_any X (pw n) cx xs _ HPW64 (hx.below hB0)).mono ?_
   rintro e w1 ⟨A', c', rfl, hM⟩
   have hB1 := hB0.trans (hM.b.mono (by simp))
   have k1 := k0.below hM.b k0.lt
   rw [← HGS.out] at hM ⊢
   obtain ⟨l, hl⟩ : ∃ l, l = gs.length := ⟨_, rfl⟩
   rw [← hl] at hM hl7 ⊢
   have HL := Lib.hid hl
   clear hl k0 hB0
   go_wp2_with fail
   go_loop [5, 8, 15] (fun o _ i => ∃ k : Nat, k ≤ l ∧ i = .int .i64 k ∧ o = .int .i64 ((cntO (gs.take k) : Nat) : Int)) (fun _ _ i => l - (intOf i).toNat)
   case atStart => exact ⟨0, by omega, rfl, rfl⟩
   case round =>
    obtain ⟨k, hk, rfl, rfl⟩ := hrel
    by_cases hlt : k < l
    · obtain ⟨g, o, rfl, hxk, hcx'⟩ := hM.rd.int hlt
      obtain ⟨r1, r2⟩ := hrg _ (List.getElem_mem hxk)
      have HC := Lib.hid (cntO_take hxk r1)
      have hcl := cntO_le (gs.take k)
      have hcl2 : (gs.take k).length ≤ k := List.length_take_le _ _
      obtain ⟨q, hq⟩ : ∃ q, q = cntO (gs.take k) := ⟨_, rfl⟩
      rw [← hq] at hcl ⊢
      have HQ := Lib.hid hq
      clear hq
      go_wp2
      go_round
      case rel => exact ⟨k + 1, by omega, by go_num, by rw [HC.out, HQ.out]⟩
      case measure => simp [intOf]; omega
    · obtain rfl : k = l := by omega
      have e0 : gs.take k = gs := List.take_of_length_le (by rw [← HL.out]; omega)
      rw [e0]
      clear e0
      have hw' : w1 = w1 := rfl
      have k2 := k1
      have hB2 := hB1
      clear k1 hB1
      try rw [← HL.out] at c2
      go_wp2
      refine wp_obs 25 [[],[],[0,1],[0,1,2],[0,1,2,3],[0,1,2,3,4],[0,1,2,3,4],[0,1,2,3,4],[0,1,2,3,4],[0,1,2,3,4,7,8],[0,1,2,3,4,6,7,8,9],[0,1,2,3,4,5,6,7,8,9,10],[0,1,2,3,4,5,6,7,8,9,10,11],[0,1,2,3,4,5,6,7,8,9,10,11,12],[0,1,2,3,4,5,6,7,8,9,10,11,12,13],[0,1,2,3,4,5,6,7,8,9,10,11,12,13,14],[0,1,2,3,4,5,6,7,8,9,10,11,12,13,14,15],[0,1,2,3,4,5,6,7,8,9,10,11,12,13,14,15,16],[0,1,2,3,4,5,6,7,8,9,10,11,12,13,14,15,16,17],[0,1,2,3,4,5,6,7,8,9,10,11,12,13,14,15,16,17,18],[0,1,2,3,4,5,6,7,8,9,10,11,12,13,14,15,16,17,18],[0,1,2,3,4,5,6,7,8,9,10,11,12,13,14,15,16,17,18,20],[0,1,2,3,4,5,6,7,8,9,10,11,12,13,14,15,16,17,18,19,20,21],[0,1,2,3,4,5,6,7,8,9,10,11,12,13,14,15,16,17,18,19,20,21,22],[0,1,2,3,4,5,6,7,8,9,10,11,12,13,14,15,16,17,18,19,20,21,22,23]] [VIs (.agg #[.int .i64 P, .slice A n c]), VIs (.slice X (pw n) cx), VIs (.int .i64 (nrmL P sq xs)), VIs (.bool true), VIs (.bool true), VIs undef, VIs undef, VIs undef, VIs undef, VIs undef, VIs undef, VIs undef, VIs undef, VIs undef, VIs (.bool true), VIs (.bool true), VIs undef, VIs undef, VIs undef, VIs undef, VIs undef, VIs undef, VIs undef, VIs undef, VIs (.bool true)] (fun w' => Blk w' w.heap.size 26 #[.int .i64 P, .slice A n c] ∧ Below w.heap.size w w') (by kernel_rfl) (by kernel_rfl) (fun _ _ h hb => ⟨h.1.below hb h.1.lt, h.2.trans (hb.mono h.2.size)⟩) (⟨k2.drew, hB2.drew⟩) (fun x => ?_)
      refine zS (fun w' hS hV K hK => ?_) ?_
      · obtain ⟨q0, q1⟩ := hS.1.two; go_simp; exact zO hK
      refine zS (fun w' hS hV K hK => ?_) ?_
      · obtain ⟨q0, q1⟩ := hS.1.two; go_simp; exact zO hK
      refine zS (fun w' hS hV K hK => ?_) ?_
      · have e0 := zQ hV 0; have e1 := zQ hV 1; obtain ⟨q0, q1⟩ := hS.1.two; go_simp; refine (spinorNorm_any P A n c sq _ _ xs _ hp hp2 hn (ha.below hS.2) hs (hx.below hS.2) hxs hcx).mono ?_; rintro e w1 ⟨rfl, hb⟩; exact hK.out _ _ _ rfl rfl rfl hb
      refine zS (fun w' hS hV K hK => ?_) ?_
      · have e2 := zQ hV 2; obtain ⟨q0, q1⟩ := hS.1.two; go_simp; exact zO hK
      refine zS (fun w' hS hV K hK => ?_) ?_
      · have e3 := zQ hV 3; obtain ⟨q0, q1⟩ := hS.1.two; go_simp; exact zO hK
      refine zS (fun w' hS hV K hK => ?_) ?_
      · have e4 := zQ hV 4; obtain ⟨q0, q1⟩ := hS.1.two; go_simp; exact zO hK
      refine zS (fun w' hS hV K hK => ?_) ?_
      · have e4 := zQ hV 4; obtain ⟨q0, q1⟩ := hS.1.two; go_simp; exact zO hK
      refine zS (fun w' hS hV K hK => ?_) ?_
      · have e4 := zQ hV 4; obtain ⟨q0, q1⟩ := hS.1.two; go_simp; exact zO hK
      refine zS (fun w' hS hV K hK => ?_) ?_
      · have e4 := zQ hV 4; obtain ⟨q0, q1⟩ := hS.1.two; go_simp; exact zO hK
      refine zS (fun w' hS hV K hK => ?_) ?_
      · have e4 := zQ hV 4; have e7 := zQ hV 7; have e8 := zQ hV 8; obtain ⟨q0, q1⟩ := hS.1.two; go_simp; exact zO hK
      refine zS (fun w' hS hV K hK => ?_) ?_
      · have e4 := zQ hV 4; have e6 := zQ hV 6; have e9 := zQ hV 9; obtain ⟨q0, q1⟩ := hS.1.two; go_simp; exact zO hK
      refine zS (fun w' hS hV K hK => ?_) ?_
      · have e4 := zQ hV 4; have e5 := zQ hV 5; have e10 := zQ hV 10; obtain ⟨q0, q1⟩ := hS.1.two; go_simp; exact zO hK
      refine zS (fun w' hS hV K hK => ?_) ?_
      · have e4 := zQ hV 4; have e11 := zQ hV 11; obtain ⟨q0, q1⟩ := hS.1.two; go_simp; exact zO hK
      refine zS (fun w' hS hV K hK => ?_) ?_
      · have e4 := zQ hV 4; have e12 := zQ hV 12; obtain ⟨q0, q1⟩ := hS.1.two; go_simp; exact zO hK
      refine zS (fun w' hS hV K hK => ?_) ?_
      · have e4 := zQ hV 4; have e13 := zQ hV 13; obtain ⟨q0, q1⟩ := hS.1.two; go_simp; exact zO hK
      refine zS (fun w' hS hV K hK => ?_) ?_
      · have e14 := zQ hV 14; obtain ⟨q0, q1⟩ := hS.1.two; go_simp; exact zO hK
      refine zS (fun w' hS hV K hK => ?_) ?_
      · have e15 := zQ hV 15; obtain ⟨q0, q1⟩ := hS.1.two; go_simp; exact zO hK
      refine zS (fun w' hS hV K hK => ?_) ?_
      · have e15 := zQ hV 15; have e16 := zQ hV 16; obtain ⟨q0, q1⟩ := hS.1.two; go_simp; exact zO hK
      refine zS (fun w' hS hV K hK => ?_) ?_
      · have e15 := zQ hV 15; have e17 := zQ hV 17; obtain ⟨q0, q1⟩ := hS.1.two; go_simp; exact zO hK
      refine zS (fun w' hS hV K hK => ?_) ?_
      · have e18 := zQ hV 18; obtain ⟨q0, q1⟩ := hS.1.two; go_simp; exact zO hK
      refine zS (fun w' hS hV K hK => ?_) ?_
      · have e18 := zQ hV 18; obtain ⟨q0, q1⟩ := hS.1.two; go_simp; exact zO hK
      refine zS (fun w' hS hV K hK => ?_) ?_
      · have e18 := zQ hV 18; have e20 := zQ hV 20; obtain ⟨q0, q1⟩ := hS.1.two; go_simp; exact zO hK
      refine zS (fun w' hS hV K hK => ?_) ?_
      · have e18 := zQ hV 18; have e19 := zQ hV 19; have e21 := zQ hV 21; obtain ⟨q0, q1⟩ := hS.1.two; go_simp; exact zO hK
      refine zS (fun w' hS hV K hK => ?_) ?_
      · have e15 := zQ hV 15; have e18 := zQ hV 18; have e22 := zQ hV 22; obtain ⟨q0, q1⟩ := hS.1.two; go_simp; exact zO hK
      refine zS (fun w' hS hV K hK => ?_) ?_
      · have e15 := zQ hV 15; have e23 := zQ hV 23; obtain ⟨q0, q1⟩ := hS.1.two; go_simp; exact zO hK
      refine fun w' hS hV => ?_
      have hV := fun i hi => hV i (List.mem_range.1 hi)
      simp only [List.range, List.range.loop, zL, zM, zH, zI, VIs, VAny] at hV
      obtain ⟨e0, e1, e2, e3, e4, e5, e6, e7, e8, e9, e10, e11, e12, e13, e14, e15, e16, e17, e18, e19, e20, e21, e22, e23, e24⟩ := hV
      simp only [e0, e1, e2, e3, e4, e5, e6, e7, e8, e9, e10, e11, e12, e13, e14, e15, e16, e17, e18, e19, e20, e21, e22, e23, e24]
      clear e0 e1 e2 e3 e4 e5 e6 e7 e8 e9 e10 e11 e12 e13 e14 e15 e16 e17 e18 e19 e20 e21 e22 e23 e24
      refine wpAny_done (by kernel_rfl) ?_ _
      go_wp2
      go_ret
      exact ⟨ret_bool (by unfold versB; rw [H1.out]; rfl), hS.2⟩
set_option maxHeartbeats 3200000 in
set_option maxRecDepth 8000 in
theorem isVersor_B (P : Int) (A : Option Addr) (n c : Nat) (sq : List Int) (X : Option Addr) (cx : Nat) (xs : List Int) (w : World) (hp : 2 ≤ P) (hp2 : P ≤ 13) (hn : n ≤ 6) (ha : Rd w A n (ints sq)) (hs : NumsL P sq) (hx : Rd w X (pw n) (ints xs)) (hxs : NumsL P xs) (hcx : pw n ≤ cx) (h1 : ¬ nrmL P sq xs = 0) (h2 : onlyL (mulL P sq xs (revL P xs)) 0 = false) :
    Calls Tryz.prog 98 #[.agg #[.int .i64 P, .slice A n c], .slice X (pw n) cx] w fun e w' => e = .returned (.bool (versB P sq n xs)) ∧ Below w.heap.size w w' := by
 have hB0 : Below w.heap.size w (w.alloc (.cells #[.int .i64 P, .slice A n c] 26)) := zG.alloc (Nat.le_refl _) _
 have k0 : Blk (w.alloc (.cells #[.int .i64 P, .slice A n c] 26)) w.heap.size 26 #[.int .i64 P, .slice A n c] := Blk.new _ _ _
 have HPW : pw n ≤ 65536 := Nat.le_trans (pw_le (show n ≤ 10 by omega)) (by decide)
 have HPW64 : pw n ≤ 64 := pw_le hn
 have hl7 := gradesL_len xs
 have hrg := gradesL_range xs
 have HT2 : Hid (timesL P sq n [xs, revL P xs] = mulL P sq xs (revL P xs)) := Lib.hid (timesL_two P sq n _ _ hx.lenI hxs)
 obtain ⟨gs, hgs⟩ : ∃ gs, gs = gradesL xs := ⟨_, rfl⟩
 have HGS := Lib.hid hgs
 rw [← hgs] at hl7 hrg
 have HMC : Hid (mixB gs = (((cntO gs : Nat) : Int) != 0 && ((cntO gs : Nat) : Int) != ((gs.length : Nat) : Int))) := Lib.hid (mix_cnt fun g hg => (hrg g hg).1)
 clear hgs
 have b1 : (nrmL P sq xs == 0) = false := by simp [h1]
 have H1 := Lib.hid b1
 have H2 := Lib.hid h2
 have HO : Hid (onlyL (timesL P sq n [xs, revL P xs]) 0 = false) := Lib.hid (by rw [HT2.out]; exact h2)
 clear h1 h2
 · skip
   go_enter Tryz.func98, Tryz.ntmps98
   go_wp2_with fail
   refine (gradesOf_any X (pw n) cx xs _ HPW64 (hx.below hB0)).mono ?_
   rintro e w1 ⟨A', c', rfl, hM⟩
   have hB1 := hB0.trans (hM.b.mono (by simp))
   have k1 := k0.below hM.b k0.lt
   rw [← HGS.out] at hM ⊢
   obtain ⟨l, hl⟩ : ∃ l, l = gs.length := ⟨_, rfl⟩
   rw [← hl] at hM hl7 ⊢
   have HL := Lib.hid hl
   clear hl k0 hB0
   go_wp2_with fail
   go_loop [5, 8, 15] (fun o _ i => ∃ k : Nat, k ≤ l ∧ i = .int .i64 k ∧ o = .int .i64 ((cntO (gs.take k) : Nat) : Int)) (fun _ _ i => l - (intOf i).toNat)
   case atStart => exact ⟨0, by omega, rfl, rfl⟩
   case round =>
    obtain ⟨k, hk, rfl, rfl⟩ := hrel
    by_cases hlt : k < l
    · obtain ⟨g, o, rfl, hxk, hcx'⟩ := hM.rd.int hlt
      obtain ⟨r1, r2⟩ := hrg _ (List.getElem_mem hxk)
      have HC := Lib.hid (cntO_take hxk r1)
      have hcl := cntO_le (gs.take k)
      have hcl2 : (gs.take k).length ≤ k := List.length_take_le _ _
      obtain ⟨q, hq⟩ : ∃ q, q = cntO (gs.take k) := ⟨_, rfl⟩
      rw [← hq] at hcl ⊢
      have HQ := Lib.hid hq
      clear hq
      go_wp2
      go_round
      case rel => exact ⟨k + 1, by omega, by go_num, by rw [HC.out, HQ.out]⟩
      case measure => simp [intOf]; omega
    · obtain rfl : k = l := by omega
      have e0 : gs.take k = gs := List.take_of_length_le (by rw [← HL.out]; omega)
      rw [e0]
      clear e0
      have hw' : w1 = w1 := rfl
      have k2 := k1
      have hB2 := hB1
      clear k1 hB1
      try rw [← HL.out] at c2
      go_wp2
      refine wp_obs 25 [[],[],[0,1],[0,1,2],[0,1,2,3],[0,1,2,3,4],[0,1,2,3,4],[0,1,2,3,4],[0,1,2,3,4],[0,1,2,3,4,7,8],[0,1,2,3,4,6,7,8,9],[0,1,2,3,4,5,6,7,8,9,10],[0,1,2,3,4,5,6,7,8,9,10,11],[0,1,2,3,4,5,6,7,8,9,10,11,12],[0,1,2,3,4,5,6,7,8,9,10,11,12,13],[0,1,2,3,4,5,6,7,8,9,10,11,12,13,14],[0,1,2,3,4,5,6,7,8,9,10,11,12,13,14,15],[0,1,2,3,4,5,6,7,8,9,10,11,12,13,14,15,16],[0,1,2,3,4,5,6,7,8,9,10,11,12,13,14,15,16,17],[0,1,2,3,4,5,6,7,8,9,10,11,12,13,14,15,16,17,18],[0,1,2,3,4,5,6,7,8,9,10,11,12,13,14,15,16,17,18],[0,1,2,3,4,5,6,7,8,9,10,11,12,13,14,15,16,17,18,20],[0,1,2,3,4,5,6,7,8,9,10,11,12,13,14,15,16,17,18,19,20,21],[0,1,2,3,4,5,6,7,8,9,10,11,12,13,14,15,16,17,18,19,20,21,22],[0,1,2,3,4,5,6,7,8,9,10,11,12,13,14,15,16,17,18,19,20,21,22,23]] [VIs (.agg #[.int .i64 P, .slice A n c]), VIs (.slice X (pw n) cx), VIs (.int .i64 (nrmL P sq xs)), VIs (.bool false), VIs (.bool false), VIs (.agg #[.int .i64 P, .slice A n c]), VIs (.slice X (pw n) cx), VIs (.agg #[.int .i64 P, .slice A n c]), VIs (.slice X (pw n) cx), VSl w (pw n) (revL P xs), VRow 2 [xs, (revL P xs)], VSl w (pw n) (timesL P sq n [xs, (revL P xs)]), VIs (.bool false), VIs (.bool true), VIs (.bool true), VIs (.bool true), VIs undef, VIs undef, VIs undef, VIs undef, VIs undef, VIs undef, VIs undef, VIs undef, VIs (.bool true)] (fun w' => Blk w' w.heap.size 26 #[.int .i64 P, .slice A n c] ∧ Below w.heap.size w w') (by kernel_rfl) (by kernel_rfl) (fun _ _ h hb => ⟨h.1.below hb h.1.lt, h.2.trans (hb.mono h.2.size)⟩) (⟨k2.drew, hB2.drew⟩) (fun x => ?_)
      refine zS (fun w' hS hV K hK => ?_) ?_
      · obtain ⟨q0, q1⟩ := hS.1.two; go_simp; exact zO hK
      refine zS (fun w' hS hV K hK => ?_) ?_
      · obtain ⟨q0, q1⟩ := hS.1.two; go_simp; exact zO hK
      refine zS (fun w' hS hV K hK => ?_) ?_
      · have e0 := zQ hV 0; have e1 := zQ hV 1; obtain ⟨q0, q1⟩ := hS.1.two; go_simp; refine (spinorNorm_any P A n c sq _ _ xs _ hp hp2 hn (ha.below hS.2) hs (hx.below hS.2) hxs hcx).mono ?_; rintro e w1 ⟨rfl, hb⟩; exact hK.out _ _ _ rfl rfl rfl hb
      refine zS (fun w' hS hV K hK => ?_) ?_
      · have e2 := zQ hV 2; obtain ⟨q0, q1⟩ := hS.1.two; go_simp; exact zO hK
      refine zS (fun w' hS hV K hK => ?_) ?_
      · have e3 := zQ hV 3; obtain ⟨q0, q1⟩ := hS.1.two; go_simp; exact zO hK
      refine zS (fun w' hS hV K hK => ?_) ?_
      · have e4 := zQ hV 4; obtain ⟨q0, q1⟩ := hS.1.two; go_simp; exact zO hK
      refine zS (fun w' hS hV K hK => ?_) ?_
      · have e4 := zQ hV 4; obtain ⟨q0, q1⟩ := hS.1.two; go_simp; exact zO hK
      refine zS (fun w' hS hV K hK => ?_) ?_
      · have e4 := zQ hV 4; obtain ⟨q0, q1⟩ := hS.1.two; go_simp; exact zO hK
      refine zS (fun w' hS hV K hK => ?_) ?_
      · have e4 := zQ hV 4; obtain ⟨q0, q1⟩ := hS.1.two; go_simp; exact zO hK
      refine zS (fun w' hS hV K hK => ?_) ?_
      · have e4 := zQ hV 4; have e7 := zQ hV 7; have e8 := zQ hV 8; obtain ⟨q0, q1⟩ := hS.1.two; go_simp; refine (reverse_any P A n c _ (pw n) _ xs _ hp hp2 HPW64 (hx.below hS.2) hxs).mono ?_; rintro e w1 ⟨A2, c2, rfl, hM⟩; exact hK.out _ _ _ rfl rfl ⟨_, _, rfl, hM.after hS.2⟩ hM.b
      refine zS (fun w' hS hV K hK => ?_) ?_
      · have e4 := zQ hV 4; have e6 := zQ hV 6; obtain ⟨A9, c9, e9, h9⟩ := hV 9 (by decide); obtain ⟨q0, q1⟩ := hS.1.two; go_simp; exact hK.out _ _ _ rfl rfl ⟨_, _, rfl, rdII_two (Blk.new _ _ _) (Rd.below ((hx.below hS.2)) (zG.alloc (Nat.le_refl _) _)) (Rd.below (h9.rd) (zG.alloc (Nat.le_refl _) _)) (hcx) (h9.2.cap)⟩ (zG.alloc (Nat.le_refl _) _)
      refine zS (fun w' hS hV K hK => ?_) ?_
      · have e4 := zQ hV 4; have e5 := zQ hV 5; obtain ⟨A9, c9, e9, h9⟩ := hV 9 (by decide); obtain ⟨A10, c10, e10, h10⟩ := hV 10 (by decide); obtain ⟨q0, q1⟩ := hS.1.two; go_simp; refine (times_any P A n c sq _ 2 _ [xs, (revL P xs)] _ hp hp2 hn (by omega) (ha.below hS.2) hs h10 (all_two ⟨hxs, Rd.lenI ((hx.below hS.2))⟩ ⟨(sgnL_nums (by omega) revT hxs), Rd.lenI (h9.rd)⟩)).mono ?_; rintro e w1 ⟨A2, c2, rfl, hM⟩; exact hK.out _ _ _ rfl rfl ⟨_, _, rfl, hM.after hS.2⟩ hM.b
      refine zS (fun w' hS hV K hK => ?_) ?_
      · have e4 := zQ hV 4; obtain ⟨A11, c11, e11, h11⟩ := hV 11 (by decide); obtain ⟨q0, q1⟩ := hS.1.two; go_simp; refine (onlyGrade_b _ _ _ _ _ _ HPW64 h11.rd HO.out).mono ?_; rintro e w1 ⟨rfl, hb⟩; exact hK.out _ _ _ rfl rfl rfl hb
      refine zS (fun w' hS hV K hK => ?_) ?_
      · have e4 := zQ hV 4; have e12 := zQ hV 12; obtain ⟨q0, q1⟩ := hS.1.two; go_simp; exact zO hK
      refine zS (fun w' hS hV K hK => ?_) ?_
      · have e4 := zQ hV 4; have e13 := zQ hV 13; obtain ⟨q0, q1⟩ := hS.1.two; go_simp; exact zO hK
      refine zS (fun w' hS hV K hK => ?_) ?_
      · have e14 := zQ hV 14; obtain ⟨q0, q1⟩ := hS.1.two; go_simp; exact zO hK
      refine zS (fun w' hS hV K hK => ?_) ?_
      · have e15 := zQ hV 15; obtain ⟨q0, q1⟩ := hS.1.two; go_simp; exact zO hK
      refine zS (fun w' hS hV K hK => ?_) ?_
      · have e15 := zQ hV 15; have e16 := zQ hV 16; obtain ⟨q0, q1⟩ := hS.1.two; go_simp; exact zO hK
      refine zS (fun w' hS hV K hK => ?_) ?_
      · have e15 := zQ hV 15; have e17 := zQ hV 17; obtain ⟨q0, q1⟩ := hS.1.two; go_simp; exact zO hK
      refine zS (fun w' hS hV K hK => ?_) ?_
      · have e18 := zQ hV 18; obtain ⟨q0, q1⟩ := hS.1.two; go_simp; exact zO hK
      refine zS (fun w' hS hV K hK => ?_) ?_
      · have e18 := zQ hV 18; obtain ⟨q0, q1⟩ := hS.1.two; go_simp; exact zO hK
      refine zS (fun w' hS hV K hK => ?_) ?_
      · have e18 := zQ hV 18; have e20 := zQ hV 20; obtain ⟨q0, q1⟩ := hS.1.two; go_simp; exact zO hK
      refine zS (fun w' hS hV K hK => ?_) ?_
      · have e18 := zQ hV 18; have e19 := zQ hV 19; have e21 := zQ hV 21; obtain ⟨q0, q1⟩ := hS.1.two; go_simp; exact zO hK
      refine zS (fun w' hS hV K hK => ?_) ?_
      · have e15 := zQ hV 15; have e18 := zQ hV 18; have e22 := zQ hV 22; obtain ⟨q0, q1⟩ := hS.1.two; go_simp; exact zO hK
      refine zS (fun w' hS hV K hK => ?_) ?_
      · have e15 := zQ hV 15; have e23 := zQ hV 23; obtain ⟨q0, q1⟩ := hS.1.two; go_simp; exact zO hK
      refine fun w' hS hV => ?_
      have hV := fun i hi => hV i (List.mem_range.1 hi)
      simp only [List.range, List.range.loop, zL, zM, zH, zI, VIs, VSl, VRow, VAny] at hV
      obtain ⟨e0, e1, e2, e3, e4, e5, e6, e7, e8, ⟨A9, c9, e9, h9⟩, ⟨A10, c10, e10, h10⟩, ⟨A11, c11, e11, h11⟩, e12, e13, e14, e15, e16, e17, e18, e19, e20, e21, e22, e23, e24⟩ := hV
      simp only [e0, e1, e2, e3, e4, e5, e6, e7, e8, e9, e10, e11, e12, e13, e14, e15, e16, e17, e18, e19, e20, e21, e22, e23, e24]
      clear e0 e1 e2 e3 e4 e5 e6 e7 e8 e9 e10 e11 e12 e13 e14 e15 e16 e17 e18 e19 e20 e21 e22 e23 e24
      refine wpAny_done (by kernel_rfl) ?_ _
      go_wp2
      go_ret
      exact ⟨ret_bool (by unfold versB; rw [H1.out, H2.out]; rfl), hS.2⟩
set_option maxHeartbeats 3200000 in
set_option maxRecDepth 8000 in
theorem isVersor_C (P : Int) (A : Option Addr) (n c : Nat) (sq : List Int) (X : Option Addr) (cx : Nat) (xs : List Int) (w : World) (hp : 2 ≤ P) (hp2 : P ≤ 13) (hn : n ≤ 6) (ha : Rd w A n (ints sq)) (hs : NumsL P sq) (hx : Rd w X (pw n) (ints xs)) (hxs : NumsL P xs) (hcx : pw n ≤ cx) (h1 : ¬ nrmL P sq xs = 0) (h2 : onlyL (mulL P sq xs (revL P xs)) 0 = true) (h3 : mixB (gradesL xs) = true) :
    Calls Tryz.prog 98 #[.agg #[.int .i64 P, .slice A n c], .slice X (pw n) cx] w fun e w' => e = .returned (.bool (versB P sq n xs)) ∧ Below w.heap.size w w' := by
 have hB0 : Below w.heap.size w (w.alloc (.cells #[.int .i64 P, .slice A n c] 26)) := zG.alloc (Nat.le_refl _) _
 have k0 : Blk (w.alloc (.cells #[.int .i64 P, .slice A n c] 26)) w.heap.size 26 #[.int .i64 P, .slice A n c] := Blk.new _ _ _
 have HPW : pw n ≤ 65536 := Nat.le_trans (pw_le (show n ≤ 10 by omega)) (by decide)
 have HPW64 : pw n ≤ 64 := pw_le hn
 have hl7 := gradesL_len xs
 have hrg := gradesL_range xs
 have HT2 : Hid (timesL P sq n [xs, revL P xs] = mulL P sq xs (revL P xs)) := Lib.hid (timesL_two P sq n _ _ hx.lenI hxs)
 obtain ⟨gs, hgs⟩ : ∃ gs, gs = gradesL xs := ⟨_, rfl⟩
 have HGS := Lib.hid hgs
 rw [← hgs] at hl7 hrg
 have HMC : Hid (mixB gs = (((cntO gs : Nat) : Int) != 0 && ((cntO gs : Nat) : Int) != ((gs.length : Nat) : Int))) := Lib.hid (mix_cnt fun g hg => (hrg g hg).1)
 clear hgs
 have b1 : (nrmL P sq xs == 0) = false := by simp [h1]
 have H1 := Lib.hid b1
 have H2 := Lib.hid h2
 have HO : Hid (onlyL (timesL P sq n [xs, revL P xs]) 0 = true) := Lib.hid (by rw [HT2.out]; exact h2)
 have H3 := Lib.hid h3
 have hmx := HMC.out
 rw [HGS.out, h3, ← HGS.out] at hmx
 have hmx2 := Bool.and_eq_true_iff.1 hmx.symm
 obtain ⟨c1, c2⟩ := hmx2
 clear h1 h2 h3 hmx
 · skip
   go_enter Tryz.func98, Tryz.ntmps98
   go_wp2_with fail
   refine (gradesOf_any X (pw n) cx xs _ HPW64 (hx.below hB0)).mono ?_
   rintro e w1 ⟨A', c', rfl, hM⟩
   have hB1 := hB0.trans (hM.b.mono (by simp))
   have k1 := k0.below hM.b k0.lt
   rw [← HGS.out] at hM ⊢
   obtain ⟨l, hl⟩ : ∃ l, l = gs.length := ⟨_, rfl⟩
   rw [← hl] at hM hl7 ⊢
   have HL := Lib.hid hl
   clear hl k0 hB0
   go_wp2_with fail
   go_loop [5, 8, 15] (fun o _ i => ∃ k : Nat, k ≤ l ∧ i = .int .i64 k ∧ o = .int .i64 ((cntO (gs.take k) : Nat) : Int)) (fun _ _ i => l - (intOf i).toNat)
   case atStart => exact ⟨0, by omega, rfl, rfl⟩
   case round =>
    obtain ⟨k, hk, rfl, rfl⟩ := hrel
    by_cases hlt : k < l
    · obtain ⟨g, o, rfl, hxk, hcx'⟩ := hM.rd.int hlt
      obtain ⟨r1, r2⟩ := hrg _ (List.getElem_mem hxk)
      have HC := Lib.hid (cntO_take hxk r1)
      have hcl := cntO_le (gs.take k)
      have hcl2 : (gs.take k).length ≤ k := List.length_take_le _ _
      obtain ⟨q, hq⟩ : ∃ q, q = cntO (gs.take k) := ⟨_, rfl⟩
      rw [← hq] at hcl ⊢
      have HQ := Lib.hid hq
      clear hq
      go_wp2
      go_round
      case rel => exact ⟨k + 1, by omega, by go_num, by rw [HC.out, HQ.out]⟩
      case measure => simp [intOf]; omega
    · obtain rfl : k = l := by omega
      have e0 : gs.take k = gs := List.take_of_length_le (by rw [← HL.out]; omega)
      rw [e0]
      clear e0
      have hw' : w1 = w1 := rfl
      have k2 := k1
      have hB2 := hB1
      clear k1 hB1
      try rw [← HL.out] at c2
      go_wp2
      refine wp_obs 25 [[],[],[0,1],[0,1,2],[0,1,2,3],[0,1,2,3,4],[0,1,2,3,4],[0,1,2,3,4],[0,1,2,3,4],[0,1,2,3,4,7,8],[0,1,2,3,4,6,7,8,9],[0,1,2,3,4,5,6,7,8,9,10],[0,1,2,3,4,5,6,7,8,9,10,11],[0,1,2,3,4,5,6,7,8,9,10,11,12],[0,1,2,3,4,5,6,7,8,9,10,11,12,13],[0,1,2,3,4,5,6,7,8,9,10,11,12,13,14],[0,1,2,3,4,5,6,7,8,9,10,11,12,13,14,15],[0,1,2,3,4,5,6,7,8,9,10,11,12,13,14,15,16],[0,1,2,3,4,5,6,7,8,9,10,11,12,13,14,15,16,17],[0,1,2,3,4,5,6,7,8,9,10,11,12,13,14,15,16,17,18],[0,1,2,3,4,5,6,7,8,9,10,11,12,13,14,15,16,17,18],[0,1,2,3,4,5,6,7,8,9,10,11,12,13,14,15,16,17,18,20],[0,1,2,3,4,5,6,7,8,9,10,11,12,13,14,15,16,17,18,19,20,21],[0,1,2,3,4,5,6,7,8,9,10,11,12,13,14,15,16,17,18,19,20,21,22],[0,1,2,3,4,5,6,7,8,9,10,11,12,13,14,15,16,17,18,19,20,21,22,23]] [VIs (.agg #[.int .i64 P, .slice A n c]), VIs (.slice X (pw n) cx), VIs (.int .i64 (nrmL P sq xs)), VIs (.bool false), VIs (.bool false), VIs (.agg #[.int .i64 P, .slice A n c]), VIs (.slice X (pw n) cx), VIs (.agg #[.int .i64 P, .slice A n c]), VIs (.slice X (pw n) cx), VSl w (pw n) (revL P xs), VRow 2 [xs, (revL P xs)], VSl w (pw n) (timesL P sq n [xs, (revL P xs)]), VIs (.bool true), VIs (.bool false), VIs (.bool false), VIs (.bool false), VIs (.int .i64 ((cntO gs : Nat) : Int)), VIs (.bool true), VIs (.bool true), VIs (.int .i64 ((cntO gs : Nat) : Int)), VIs (.slice A' k c'), VIs (.int .i64 ((k : Nat) : Int)), VIs (.bool true), VIs (.bool true), VIs (.bool true)] (fun w' => Blk w' w.heap.size 26 #[.int .i64 P, .slice A n c] ∧ Below w.heap.size w w') (by kernel_rfl) (by kernel_rfl) (fun _ _ h hb => ⟨h.1.below hb h.1.lt, h.2.trans (hb.mono h.2.size)⟩) (⟨k2.drew, hB2.drew⟩) (fun x => ?_)
      refine zS (fun w' hS hV K hK => ?_) ?_
      · obtain ⟨q0, q1⟩ := hS.1.two; go_simp; exact zO hK
      refine zS (fun w' hS hV K hK => ?_) ?_
      · obtain ⟨q0, q1⟩ := hS.1.two; go_simp; exact zO hK
      refine zS (fun w' hS hV K hK => ?_) ?_
      · have e0 := zQ hV 0; have e1 := zQ hV 1; obtain ⟨q0, q1⟩ := hS.1.two; go_simp; refine (spinorNorm_any P A n c sq _ _ xs _ hp hp2 hn (ha.below hS.2) hs (hx.below hS.2) hxs hcx).mono ?_; rintro e w1 ⟨rfl, hb⟩; exact hK.out _ _ _ rfl rfl rfl hb
      refine zS (fun w' hS hV K hK => ?_) ?_
      · have e2 := zQ hV 2; obtain ⟨q0, q1⟩ := hS.1.two; go_simp; exact zO hK
      refine zS (fun w' hS hV K hK => ?_) ?_
      · have e3 := zQ hV 3; obtain ⟨q0, q1⟩ := hS.1.two; go_simp; exact zO hK
      refine zS (fun w' hS hV K hK => ?_) ?_
      · have e4 := zQ hV 4; obtain ⟨q0, q1⟩ := hS.1.two; go_simp; exact zO hK
      refine zS (fun w' hS hV K hK => ?_) ?_
      · have e4 := zQ hV 4; obtain ⟨q0, q1⟩ := hS.1.two; go_simp; exact zO hK
      refine zS (fun w' hS hV K hK => ?_) ?_
      · have e4 := zQ hV 4; obtain ⟨q0, q1⟩ := hS.1.two; go_simp; exact zO hK
      refine zS (fun w' hS hV K hK => ?_) ?_
      · have e4 := zQ hV 4; obtain ⟨q0, q1⟩ := hS.1.two; go_simp; exact zO hK
      refine zS (fun w' hS hV K hK => ?_) ?_
      · have e4 := zQ hV 4; have e7 := zQ hV 7; have e8 := zQ hV 8; obtain ⟨q0, q1⟩ := hS.1.two; go_simp; refine (reverse_any P A n c _ (pw n) _ xs _ hp hp2 HPW64 (hx.below hS.2) hxs).mono ?_; rintro e w1 ⟨A2, c2, rfl, hM⟩; exact hK.out _ _ _ rfl rfl ⟨_, _, rfl, hM.after hS.2⟩ hM.b
      refine zS (fun w' hS hV K hK => ?_) ?_
      · have e4 := zQ hV 4; have e6 := zQ hV 6; obtain ⟨A9, c9, e9, h9⟩ := hV 9 (by decide); obtain ⟨q0, q1⟩ := hS.1.two; go_simp; exact hK.out _ _ _ rfl rfl ⟨_, _, rfl, rdII_two (Blk.new _ _ _) (Rd.below ((hx.below hS.2)) (zG.alloc (Nat.le_refl _) _)) (Rd.below (h9.rd) (zG.alloc (Nat.le_refl _) _)) (hcx) (h9.2.cap)⟩ (zG.alloc (Nat.le_refl _) _)
      refine zS (fun w' hS hV K hK => ?_) ?_
      · have e4 := zQ hV 4; have e5 := zQ hV 5; obtain ⟨A9, c9, e9, h9⟩ := hV 9 (by decide); obtain ⟨A10, c10, e10, h10⟩ := hV 10 (by decide); obtain ⟨q0, q1⟩ := hS.1.two; go_simp; refine (times_any P A n c sq _ 2 _ [xs, (revL P xs)] _ hp hp2 hn (by omega) (ha.below hS.2) hs h10 (all_two ⟨hxs, Rd.lenI ((hx.below hS.2))⟩ ⟨(sgnL_nums (by omega) revT hxs), Rd.lenI (h9.rd)⟩)).mono ?_; rintro e w1 ⟨A2, c2, rfl, hM⟩; exact hK.out _ _ _ rfl rfl ⟨_, _, rfl, hM.after hS.2⟩ hM.b
      refine zS (fun w' hS hV K hK => ?_) ?_
      · have e4 := zQ hV 4; obtain ⟨A11, c11, e11, h11⟩ := hV 11 (by decide); obtain ⟨q0, q1⟩ := hS.1.two; go_simp; refine (onlyGrade_b _ _ _ _ _ _ HPW64 h11.rd HO.out).mono ?_; rintro e w1 ⟨rfl, hb⟩; exact hK.out _ _ _ rfl rfl rfl hb
      refine zS (fun w' hS hV K hK => ?_) ?_
      · have e4 := zQ hV 4; have e12 := zQ hV 12; obtain ⟨q0, q1⟩ := hS.1.two; go_simp; exact zO hK
      refine zS (fun w' hS hV K hK => ?_) ?_
      · have e4 := zQ hV 4; have e13 := zQ hV 13; obtain ⟨q0, q1⟩ := hS.1.two; go_simp; exact zO hK
      refine zS (fun w' hS hV K hK => ?_) ?_
      · have e14 := zQ hV 14; obtain ⟨q0, q1⟩ := hS.1.two; go_simp; exact zO hK
      refine zS (fun w' hS hV K hK => ?_) ?_
      · have e15 := zQ hV 15; obtain ⟨q0, q1⟩ := hS.1.two; go_simp; exact zO hK
      refine zS (fun w' hS hV K hK => ?_) ?_
      · have e15 := zQ hV 15; have e16 := zQ hV 16; obtain ⟨q0, q1⟩ := hS.1.two; go_simp; exact zO hK
      refine zS (fun w' hS hV K hK => ?_) ?_
      · have e15 := zQ hV 15; have e17 := zQ hV 17; obtain ⟨q0, q1⟩ := hS.1.two; go_simp; exact zO hK
      refine zS (fun w' hS hV K hK => ?_) ?_
      · have e18 := zQ hV 18; obtain ⟨q0, q1⟩ := hS.1.two; go_simp; exact zO hK
      refine zS (fun w' hS hV K hK => ?_) ?_
      · have e18 := zQ hV 18; obtain ⟨q0, q1⟩ := hS.1.two; go_simp; exact zO hK
      refine zS (fun w' hS hV K hK => ?_) ?_
      · have e18 := zQ hV 18; have e20 := zQ hV 20; obtain ⟨q0, q1⟩ := hS.1.two; go_simp; exact zO hK
      refine zS (fun w' hS hV K hK => ?_) ?_
      · have e18 := zQ hV 18; have e19 := zQ hV 19; have e21 := zQ hV 21; obtain ⟨q0, q1⟩ := hS.1.two; go_simp; exact zO hK
      refine zS (fun w' hS hV K hK => ?_) ?_
      · have e15 := zQ hV 15; have e18 := zQ hV 18; have e22 := zQ hV 22; obtain ⟨q0, q1⟩ := hS.1.two; go_simp; exact zO hK
      refine zS (fun w' hS hV K hK => ?_) ?_
      · have e15 := zQ hV 15; have e23 := zQ hV 23; obtain ⟨q0, q1⟩ := hS.1.two; go_simp; exact zO hK
      refine fun w' hS hV => ?_
      have hV := fun i hi => hV i (List.mem_range.1 hi)
      simp only [List.range, List.range.loop, zL, zM, zH, zI, VIs, VSl, VRow, VAny] at hV
      obtain ⟨e0, e1, e2, e3, e4, e5, e6, e7, e8, ⟨A9, c9, e9, h9⟩, ⟨A10, c10, e10, h10⟩, ⟨A11, c11, e11, h11⟩, e12, e13, e14, e15, e16, e17, e18, e19, e20, e21, e22, e23, e24⟩ := hV
      simp only [e0, e1, e2, e3, e4, e5, e6, e7, e8, e9, e10, e11, e12, e13, e14, e15, e16, e17, e18, e19, e20, e21, e22, e23, e24]
      clear e0 e1 e2 e3 e4 e5 e6 e7 e8 e9 e10 e11 e12 e13 e14 e15 e16 e17 e18 e19 e20 e21 e22 e23 e24
      refine wpAny_done (by kernel_rfl) ?_ _
      go_wp2
      go_ret
      exact ⟨ret_bool (by unfold versB; rw [H1.out, H2.out, H3.out]; rfl), hS.2⟩
set_option maxHeartbeats 3200000 in
set_option maxRecDepth 8000 in
theorem isVersor_D (P : Int) (A : Option Addr) (n c : Nat) (sq : List Int) (X : Option Addr) (cx : Nat) (xs : List Int) (w : World) (hp : 2 ≤ P) (hp2 : P ≤ 13) (hn : n ≤ 6) (ha : Rd w A n (ints sq)) (hs : NumsL P sq) (hx : Rd w X (pw n) (ints xs)) (hxs : NumsL P xs) (hcx : pw n ≤ cx) (h1 : ¬ nrmL P sq xs = 0) (h2 : onlyL (mulL P sq xs (revL P xs)) 0 = true) (h3 : mixB (gradesL xs) = false) (h4 : cntO (gradesL xs) = 0) :
    Calls Tryz.prog 98 #[.agg #[.int .i64 P, .slice A n c], .slice X (pw n) cx] w fun e w' => e = .returned (.bool (versB P sq n xs)) ∧ Below w.heap.size w w' := by
 have hB0 : Below w.heap.size w (w.alloc (.cells #[.int .i64 P, .slice A n c] 26)) := zG.alloc (Nat.le_refl _) _
 have k0 : Blk (w.alloc (.cells #[.int .i64 P, .slice A n c] 26)) w.heap.size 26 #[.int .i64 P, .slice A n c] := Blk.new _ _ _
 have HPW : pw n ≤ 65536 := Nat.le_trans (pw_le (show n ≤ 10 by omega)) (by decide)
 have HPW64 : pw n ≤ 64 := pw_le hn
 have hl7 := gradesL_len xs
 have hrg := gradesL_range xs
 have HT2 : Hid (timesL P sq n [xs, revL P xs] = mulL P sq xs (revL P xs)) := Lib.hid (timesL_two P sq n _ _ hx.lenI hxs)
 obtain ⟨gs, hgs⟩ : ∃ gs, gs = gradesL xs := ⟨_, rfl⟩
 have HGS := Lib.hid hgs
 rw [← hgs] at hl7 hrg
 have HMC : Hid (mixB gs = (((cntO gs : Nat) : Int) != 0 && ((cntO gs : Nat) : Int) != ((gs.length : Nat) : Int))) := Lib.hid (mix_cnt fun g hg => (hrg g hg).1)
 clear hgs
 have b1 : (nrmL P sq xs == 0) = false := by simp [h1]
 have H1 := Lib.hid b1
 have H2 := Lib.hid h2
 have HO : Hid (onlyL (timesL P sq n [xs, revL P xs]) 0 = true) := Lib.hid (by rw [HT2.out]; exact h2)
 have H3 := Lib.hid h3
 have c1 : (((cntO gs : Nat) : Int) != 0) = false := by rw [HGS.out, h4]; rfl
 clear h4
 clear h1 h2 h3
 · skip
   go_enter Tryz.func98, Tryz.ntmps98
   go_wp2_with fail
   refine (gradesOf_any X (pw n) cx xs _ HPW64 (hx.below hB0)).mono ?_
   rintro e w1 ⟨A', c', rfl, hM⟩
   have hB1 := hB0.trans (hM.b.mono (by simp))
   have k1 := k0.below hM.b k0.lt
   rw [← HGS.out] at hM ⊢
   obtain ⟨l, hl⟩ : ∃ l, l = gs.length := ⟨_, rfl⟩
   rw [← hl] at hM hl7 ⊢
   have HL := Lib.hid hl
   clear hl k0 hB0
   go_wp2_with fail
   go_loop [5, 8, 15] (fun o _ i => ∃ k : Nat, k ≤ l ∧ i = .int .i64 k ∧ o = .int .i64 ((cntO (gs.take k) : Nat) : Int)) (fun _ _ i => l - (intOf i).toNat)
   case atStart => exact ⟨0, by omega, rfl, rfl⟩
   case round =>
    obtain ⟨k, hk, rfl, rfl⟩ := hrel
    by_cases hlt : k < l
    · obtain ⟨g, o, rfl, hxk, hcx'⟩ := hM.rd.int hlt
      obtain ⟨r1, r2⟩ := hrg _ (List.getElem_mem hxk)
      have HC := Lib.hid (cntO_take hxk r1)
      have hcl := cntO_le (gs.take k)
      have hcl2 : (gs.take k).length ≤ k := List.length_take_le _ _
      obtain ⟨q, hq⟩ : ∃ q, q = cntO (gs.take k) := ⟨_, rfl⟩
      rw [← hq] at hcl ⊢
      have HQ := Lib.hid hq
      clear hq
      go_wp2
      go_round
      case rel => exact ⟨k + 1, by omega, by go_num, by rw [HC.out, HQ.out]⟩
      case measure => simp [intOf]; omega
    · obtain rfl : k = l := by omega
      have e0 : gs.take k = gs := List.take_of_length_le (by rw [← HL.out]; omega)
      rw [e0]
      clear e0
      have hw' : w1 = w1 := rfl
      have k2 := k1
      have hB2 := hB1
      clear k1 hB1
      try rw [← HL.out] at c2
      go_wp2
      refine wp_obs 25 [[],[],[0,1],[0,1,2],[0,1,2,3],[0,1,2,3,4],[0,1,2,3,4],[0,1,2,3,4],[0,1,2,3,4],[0,1,2,3,4,7,8],[0,1,2,3,4,6,7,8,9],[0,1,2,3,4,5,6,7,8,9,10],[0,1,2,3,4,5,6,7,8,9,10,11],[0,1,2,3,4,5,6,7,8,9,10,11,12],[0,1,2,3,4,5,6,7,8,9,10,11,12,13],[0,1,2,3,4,5,6,7,8,9,10,11,12,13,14],[0,1,2,3,4,5,6,7,8,9,10,11,12,13,14,15],[0,1,2,3,4,5,6,7,8,9,10,11,12,13,14,15,16],[0,1,2,3,4,5,6,7,8,9,10,11,12,13,14,15,16,17],[0,1,2,3,4,5,6,7,8,9,10,11,12,13,14,15,16,17,18],[0,1,2,3,4,5,6,7,8,9,10,11,12,13,14,15,16,17,18],[0,1,2,3,4,5,6,7,8,9,10,11,12,13,14,15,16,17,18,20],[0,1,2,3,4,5,6,7,8,9,10,11,12,13,14,15,16,17,18,19,20,21],[0,1,2,3,4,5,6,7,8,9,10,11,12,13,14,15,16,17,18,19,20,21,22],[0,1,2,3,4,5,6,7,8,9,10,11,12,13,14,15,16,17,18,19,20,21,22,23]] [VIs (.agg #[.int .i64 P, .slice A n c]), VIs (.slice X (pw n) cx), VIs (.int .i64 (nrmL P sq xs)), VIs (.bool false), VIs (.bool false), VIs (.agg #[.int .i64 P, .slice A n c]), VIs (.slice X (pw n) cx), VIs (.agg #[.int .i64 P, .slice A n c]), VIs (.slice X (pw n) cx), VSl w (pw n) (revL P xs), VRow 2 [xs, (revL P xs)], VSl w (pw n) (timesL P sq n [xs, (revL P xs)]), VIs (.bool true), VIs (.bool false), VIs (.bool false), VIs (.bool false), VIs (.int .i64 ((cntO gs : Nat) : Int)), VIs (.bool false), VIs (.bool false), VIs undef, VIs undef, VIs undef, VIs undef, VIs (.bool false), VIs (.bool false)] (fun w' => Blk w' w.heap.size 26 #[.int .i64 P, .slice A n c] ∧ Below w.heap.size w w') (by kernel_rfl) (by kernel_rfl) (fun _ _ h hb => ⟨h.1.below hb h.1.lt, h.2.trans (hb.mono h.2.size)⟩) (⟨k2.drew, hB2.drew⟩) (fun x => ?_)
      refine zS (fun w' hS hV K hK => ?_) ?_
      · obtain ⟨q0, q1⟩ := hS.1.two; go_simp; exact zO hK
      refine zS (fun w' hS hV K hK => ?_) ?_
      · obtain ⟨q0, q1⟩ := hS.1.two; go_simp; exact zO hK
      refine zS (fun w' hS hV K hK => ?_) ?_
      · have e0 := zQ hV 0; have e1 := zQ hV 1; obtain ⟨q0, q1⟩ := hS.1.two; go_simp; refine (spinorNorm_any P A n c sq _ _ xs _ hp hp2 hn (ha.below hS.2) hs (hx.below hS.2) hxs hcx).mono ?_; rintro e w1 ⟨rfl, hb⟩; exact hK.out _ _ _ rfl rfl rfl hb
      refine zS (fun w' hS hV K hK => ?_) ?_
      · have e2 := zQ hV 2; obtain ⟨q0, q1⟩ := hS.1.two; go_simp; exact zO hK
      refine zS (fun w' hS hV K hK => ?_) ?_
      · have e3 := zQ hV 3; obtain ⟨q0, q1⟩ := hS.1.two; go_simp; exact zO hK
      refine zS (fun w' hS hV K hK => ?_) ?_
      · have e4 := zQ hV 4; obtain ⟨q0, q1⟩ := hS.1.two; go_simp; exact zO hK
      refine zS (fun w' hS hV K hK => ?_) ?_
      · have e4 := zQ hV 4; obtain ⟨q0, q1⟩ := hS.1.two; go_simp; exact zO hK
      refine zS (fun w' hS hV K hK => ?_) ?_
      · have e4 := zQ hV 4; obtain ⟨q0, q1⟩ := hS.1.two; go_simp; exact zO hK
      refine zS (fun w' hS hV K hK => ?_) ?_
      · have e4 := zQ hV 4; obtain ⟨q0, q1⟩ := hS.1.two; go_simp; exact zO hK
      refine zS (fun w' hS hV K hK => ?_) ?_
      · have e4 := zQ hV 4; have e7 := zQ hV 7; have e8 := zQ hV 8; obtain ⟨q0, q1⟩ := hS.1.two; go_simp; refine (reverse_any P A n c _ (pw n) _ xs _ hp hp2 HPW64 (hx.below hS.2) hxs).mono ?_; rintro e w1 ⟨A2, c2, rfl, hM⟩; exact hK.out _ _ _ rfl rfl ⟨_, _, rfl, hM.after hS.2⟩ hM.b
      refine zS (fun w' hS hV K hK => ?_) ?_
      · have e4 := zQ hV 4; have e6 := zQ hV 6; obtain ⟨A9, c9, e9, h9⟩ := hV 9 (by decide); obtain ⟨q0, q1⟩ := hS.1.two; go_simp; exact hK.out _ _ _ rfl rfl ⟨_, _, rfl, rdII_two (Blk.new _ _ _) (Rd.below ((hx.below hS.2)) (zG.alloc (Nat.le_refl _) _)) (Rd.below (h9.rd) (zG.alloc (Nat.le_refl _) _)) (hcx) (h9.2.cap)⟩ (zG.alloc (Nat.le_refl _) _)
      refine zS (fun w' hS hV K hK => ?_) ?_
      · have e4 := zQ hV 4; have e5 := zQ hV 5; obtain ⟨A9, c9, e9, h9⟩ := hV 9 (by decide); obtain ⟨A10, c10, e10, h10⟩ := hV 10 (by decide); obtain ⟨q0, q1⟩ := hS.1.two; go_simp; refine (times_any P A n c sq _ 2 _ [xs, (revL P xs)] _ hp hp2 hn (by omega) (ha.below hS.2) hs h10 (all_two ⟨hxs, Rd.lenI ((hx.below hS.2))⟩ ⟨(sgnL_nums (by omega) revT hxs), Rd.lenI (h9.rd)⟩)).mono ?_; rintro e w1 ⟨A2, c2, rfl, hM⟩; exact hK.out _ _ _ rfl rfl ⟨_, _, rfl, hM.after hS.2⟩ hM.b
      refine zS (fun w' hS hV K hK => ?_) ?_
      · have e4 := zQ hV 4; obtain ⟨A11, c11, e11, h11⟩ := hV 11 (by decide); obtain ⟨q0, q1⟩ := hS.1.two; go_simp; refine (onlyGrade_b _ _ _ _ _ _ HPW64 h11.rd HO.out).mono ?_; rintro e w1 ⟨rfl, hb⟩; exact hK.out _ _ _ rfl rfl rfl hb
      refine zS (fun w' hS hV K hK => ?_) ?_
      · have e4 := zQ hV 4; have e12 := zQ hV 12; obtain ⟨q0, q1⟩ := hS.1.two; go_simp; exact zO hK
      refine zS (fun w' hS hV K hK => ?_) ?_
      · have e4 := zQ hV 4; have e13 := zQ hV 13; obtain ⟨q0, q1⟩ := hS.1.two; go_simp; exact zO hK
      refine zS (fun w' hS hV K hK => ?_) ?_
      · have e14 := zQ hV 14; obtain ⟨q0, q1⟩ := hS.1.two; go_simp; exact zO hK
      refine zS (fun w' hS hV K hK => ?_) ?_
      · have e15 := zQ hV 15; obtain ⟨q0, q1⟩ := hS.1.two; go_simp; exact zO hK
      refine zS (fun w' hS hV K hK => ?_) ?_
      · have e15 := zQ hV 15; have e16 := zQ hV 16; obtain ⟨q0, q1⟩ := hS.1.two; go_simp; exact zO hK
      refine zS (fun w' hS hV K hK => ?_) ?_
      · have e15 := zQ hV 15; have e17 := zQ hV 17; obtain ⟨q0, q1⟩ := hS.1.two; go_simp; exact zO hK
      refine zS (fun w' hS hV K hK => ?_) ?_
      · have e18 := zQ hV 18; obtain ⟨q0, q1⟩ := hS.1.two; go_simp; exact zO hK
      refine zS (fun w' hS hV K hK => ?_) ?_
      · have e18 := zQ hV 18; obtain ⟨q0, q1⟩ := hS.1.two; go_simp; exact zO hK
      refine zS (fun w' hS hV K hK => ?_) ?_
      · have e18 := zQ hV 18; have e20 := zQ hV 20; obtain ⟨q0, q1⟩ := hS.1.two; go_simp; exact zO hK
      refine zS (fun w' hS hV K hK => ?_) ?_
      · have e18 := zQ hV 18; have e19 := zQ hV 19; have e21 := zQ hV 21; obtain ⟨q0, q1⟩ := hS.1.two; go_simp; exact zO hK
      refine zS (fun w' hS hV K hK => ?_) ?_
      · have e15 := zQ hV 15; have e18 := zQ hV 18; have e22 := zQ hV 22; obtain ⟨q0, q1⟩ := hS.1.two; go_simp; exact zO hK
      refine zS (fun w' hS hV K hK => ?_) ?_
      · have e15 := zQ hV 15; have e23 := zQ hV 23; obtain ⟨q0, q1⟩ := hS.1.two; go_simp; exact zO hK
      refine fun w' hS hV => ?_
      have hV := fun i hi => hV i (List.mem_range.1 hi)
      simp only [List.range, List.range.loop, zL, zM, zH, zI, VIs, VSl, VRow, VAny] at hV
      obtain ⟨e0, e1, e2, e3, e4, e5, e6, e7, e8, ⟨A9, c9, e9, h9⟩, ⟨A10, c10, e10, h10⟩, ⟨A11, c11, e11, h11⟩, e12, e13, e14, e15, e16, e17, e18, e19, e20, e21, e22, e23, e24⟩ := hV
      simp only [e0, e1, e2, e3, e4, e5, e6, e7, e8, e9, e10, e11, e12, e13, e14, e15, e16, e17, e18, e19, e20, e21, e22, e23, e24]
      clear e0 e1 e2 e3 e4 e5 e6 e7 e8 e9 e10 e11 e12 e13 e14 e15 e16 e17 e18 e19 e20 e21 e22 e23 e24
      refine wpAny_done (by kernel_rfl) ?_ _
      have hB3 := hS.2
      have k3 := hS.1
      clear hS k2 hB2
      obtain ⟨q0, q1⟩ := k3.two
      go_wp2_with fail
      refine (dim_any _ _ _ _ _).mono ?_
      rintro e w4 ⟨rfl, hb4⟩
      have hB4 := hB3.trans (hb4.mono hB3.size)
      have k4 := k3.below hb4 k3.lt
      clear q0 q1 k3 hB3
      go_wp2_with fail
      refine (unit_any n _ (by omega)).mono ?_
      rintro e w5 ⟨U, cu, rfl, hU⟩
      have hB5 := hB4.trans (hU.b.mono hB4.size)
      have k5 := k4.below hU.b k4.lt
      have hUR := hU.rd
      have HUT := Lib.hid (fun i hi => @unitM_getD n i hi)
      clear k4 hB4 hU hb4
      go_wp2_with fail
      go_loopw [10, 53] (fun _ i wr => ∃ k : Nat, k ≤ n ∧ i = .int .i64 k ∧ (List.range k).all (fun i => onlyL (imgL P sq n xs i) 1) = true ∧ Blk wr w.heap.size 26 #[.int .i64 P, .slice A n c] ∧ Below w.heap.size w wr ∧ Below w5.heap.size w5 wr) (fun _ i _ => n - (intOf i).toNat)
      case atStart => exact ⟨0, by omega, rfl, rfl, k5, hB5, Below.refl _ _⟩
      case round =>
       obtain ⟨k, hk, rfl, hal, hk3, hBr, hB5r⟩ := hrel
       have HAL := Lib.hid hal
       clear hal k5 hB5
       by_cases hlt : k < n
       · obtain ⟨gu, ou, rfl, hxk, A3, c3, hcu, hv0, hcc⟩ := (hUR.below hB5r).at_ hlt
         have hv := hv0
         rw [unitM_get, unitRow_len] at hv hcc
         rw [unitM_get, unitRow_len] at hcu
         clear hv0
         have HU := unitRow_nums hp n k
         have HT3 : Hid (timesL P sq n [invoL P xs, vecTo n (unitRow n k) n, revL P xs] = imgL P sq n xs k) := Lib.hid (timesL_three P sq n _ _ _ (by unfold invoL; rw [sgnL_len, hx.lenI]) (sgnL_nums (by omega) oddT hxs))
         cases ho : onlyL (imgL P sq n xs k) 1
         · have HO : Hid (onlyL (timesL P sq n [invoL P xs, vecTo n (unitRow n k) n, revL P xs]) 1 = false) := Lib.hid (by rw [HT3.out]; exact ho)
           have H4 := Lib.hid ho
           clear ho
           go_wp2
           refine wp_obs 14 [[],[],[],[1,2],[],[],[4,5],[],[],[7,8],[1,2,3,4,5,6,7,8,9],[0,1,2,3,4,5,6,7,8,9,10],[0,1,2,3,4,5,6,7,8,9,10,11],[0,1,2,3,4,5,6,7,8,9,10,11,12]] [VIs (.agg #[.int .i64 P, .slice A n c]), VIs (.agg #[.int .i64 P, .slice A n c]), VIs (.slice X (pw n) cx), VSl w (pw n) (invoL P xs), VIs (.agg #[.int .i64 P, .slice A n c]), VIs (.slice A3 n c3), VSl w (pw n) (vecTo n (unitRow n k) n), VIs (.agg #[.int .i64 P, .slice A n c]), VIs (.slice X (pw n) cx), VSl w (pw n) (revL P xs), VRow 3 [(invoL P xs), (vecTo n (unitRow n k) n), (revL P xs)], VSl w (pw n) (timesL P sq n [(invoL P xs), (vecTo n (unitRow n k) n), (revL P xs)]), VIs (.bool false), VIs (.bool true)] (fun w' => Blk w' w.heap.size 26 #[.int .i64 P, .slice A n c] ∧ Below w.heap.size w w' ∧ Below wr.heap.size wr w') (by kernel_rfl) (by kernel_rfl) (fun _ _ h hb => ⟨h.1.below hb h.1.lt, h.2.1.trans (hb.mono h.2.1.size), h.2.2.trans (hb.mono h.2.2.size)⟩) (⟨hk3.drew, hBr.drew, zG.drew⟩) (fun x => ?_)
           refine zS (fun w' hS hV K hK => ?_) ?_
           · obtain ⟨q0, q1⟩ := hS.1.two; go_simp; exact zO hK
           refine zS (fun w' hS hV K hK => ?_) ?_
           · obtain ⟨q0, q1⟩ := hS.1.two; go_simp; exact zO hK
           refine zS (fun w' hS hV K hK => ?_) ?_
           · obtain ⟨q0, q1⟩ := hS.1.two; go_simp; exact zO hK
           refine zS (fun w' hS hV K hK => ?_) ?_
           · have e1 := zQ hV 1; have e2 := zQ hV 2; obtain ⟨q0, q1⟩ := hS.1.two; go_simp; refine (involute_any P A n c _ (pw n) _ xs _ hp hp2 HPW64 (hx.below hS.2.1) hxs).mono ?_; rintro e w1 ⟨A2, c2, rfl, hM⟩; exact hK.out _ _ _ rfl rfl ⟨_, _, rfl, hM.after hS.2.1⟩ hM.b
           refine zS (fun w' hS hV K hK => ?_) ?_
           · obtain ⟨q0, q1⟩ := hS.1.two; go_simp; exact zO hK
           refine zS (fun w' hS hV K hK => ?_) ?_
           · obtain ⟨q0, q1⟩ := hS.1.two; go_simp; exact zO hK
           refine zS (fun w' hS hV K hK => ?_) ?_
           · have e4 := zQ hV 4; have e5 := zQ hV 5; obtain ⟨q0, q1⟩ := hS.1.two; go_simp; refine (vector_any P A n c _ _ (unitRow n k) _ (by omega) (hv.below hS.2.2)).mono ?_; rintro e w1 ⟨A2, c2, rfl, hM⟩; exact hK.out _ _ _ rfl rfl ⟨_, _, rfl, hM.after hS.2.1⟩ hM.b
           refine zS (fun w' hS hV K hK => ?_) ?_
           · obtain ⟨q0, q1⟩ := hS.1.two; go_simp; exact zO hK
           refine zS (fun w' hS hV K hK => ?_) ?_
           · obtain ⟨q0, q1⟩ := hS.1.two; go_simp; exact zO hK
           refine zS (fun w' hS hV K hK => ?_) ?_
           · have e7 := zQ hV 7; have e8 := zQ hV 8; obtain ⟨q0, q1⟩ := hS.1.two; go_simp; refine (reverse_any P A n c _ (pw n) _ xs _ hp hp2 HPW64 (hx.below hS.2.1) hxs).mono ?_; rintro e w1 ⟨A2, c2, rfl, hM⟩; exact hK.out _ _ _ rfl rfl ⟨_, _, rfl, hM.after hS.2.1⟩ hM.b
           refine zS (fun w' hS hV K hK => ?_) ?_
           · obtain ⟨A3, c3, e3, h3⟩ := hV 3 (by decide); obtain ⟨A6, c6, e6, h6⟩ := hV 6 (by decide); obtain ⟨A9, c9, e9, h9⟩ := hV 9 (by decide); obtain ⟨q0, q1⟩ := hS.1.two; go_simp; exact hK.out _ _ _ rfl rfl ⟨_, _, rfl, rdII_three (Blk.new _ _ _) (Rd.below (h3.rd) (zG.alloc (Nat.le_refl _) _)) (Rd.below (h6.rd) (zG.alloc (Nat.le_refl _) _)) (Rd.below (h9.rd) (zG.alloc (Nat.le_refl _) _)) (h3.2.cap) (h6.2.cap) (h9.2.cap)⟩ (zG.alloc (Nat.le_refl _) _)
           refine zS (fun w' hS hV K hK => ?_) ?_
           · have e0 := zQ hV 0; obtain ⟨A3, c3, e3, h3⟩ := hV 3 (by decide); obtain ⟨A6, c6, e6, h6⟩ := hV 6 (by decide); obtain ⟨A9, c9, e9, h9⟩ := hV 9 (by decide); obtain ⟨A10, c10, e10, h10⟩ := hV 10 (by decide); obtain ⟨q0, q1⟩ := hS.1.two; go_simp; refine (times_any P A n c sq _ 3 _ [(invoL P xs), (vecTo n (unitRow n k) n), (revL P xs)] _ hp hp2 hn (by omega) (ha.below hS.2.1) hs h10 (all_three ⟨(sgnL_nums (by omega) oddT hxs), Rd.lenI (h3.rd)⟩ ⟨(vecTo_nums (by omega) n (unitRow n k) HU n), Rd.lenI (h6.rd)⟩ ⟨(sgnL_nums (by omega) revT hxs), Rd.lenI (h9.rd)⟩)).mono ?_; rintro e w1 ⟨A2, c2, rfl, hM⟩; exact hK.out _ _ _ rfl rfl ⟨_, _, rfl, hM.after hS.2.1⟩ hM.b
           refine zS (fun w' hS hV K hK => ?_) ?_
           · obtain ⟨A11, c11, e11, h11⟩ := hV 11 (by decide); obtain ⟨q0, q1⟩ := hS.1.two; go_simp; refine (onlyGrade_b _ _ _ _ _ _ HPW64 h11.rd HO.out).mono ?_; rintro e w1 ⟨rfl, hb⟩; exact hK.out _ _ _ rfl rfl rfl hb
           refine zS (fun w' hS hV K hK => ?_) ?_
           · have e12 := zQ hV 12; obtain ⟨q0, q1⟩ := hS.1.two; go_simp; exact zO hK
           refine fun w' hS hV => ?_
           have hV := fun i hi => hV i (List.mem_range.1 hi)
           simp only [List.range, List.range.loop, zL, zM, zH, zI, VIs, VSl, VRow, VAny] at hV
           obtain ⟨e0, e1, e2, ⟨A3, c3, e3, h3⟩, e4, e5, ⟨A6, c6, e6, h6⟩, e7, e8, ⟨A9, c9, e9, h9⟩, ⟨A10, c10, e10, h10⟩, ⟨A11, c11, e11, h11⟩, e12, e13⟩ := hV
           simp only [e0, e1, e2, e3, e4, e5, e6, e7, e8, e9, e10, e11, e12, e13]
           clear e0 e1 e2 e3 e4 e5 e6 e7 e8 e9 e10 e11 e12 e13
           refine wpAny_done (by kernel_rfl) ?_ _
           go_wp2
           go_ret
           refine ⟨ret_bool ?_, hS.2.1⟩
           have : ((List.range n).all fun i => onlyL (imgL P sq n xs i) 1) = false := by
            rw [List.all_eq_false]
            exact ⟨k, by simpa using hlt, by rw [H4.out]; decide⟩
           unfold versB
           rw [this, Bool.and_false]
         · have HO : Hid (onlyL (timesL P sq n [invoL P xs, vecTo n (unitRow n k) n, revL P xs]) 1 = true) := Lib.hid (by rw [HT3.out]; exact ho)
           have H4 := Lib.hid ho
           clear ho
           go_wp2
           refine wp_obs 14 [[],[],[],[1,2],[],[],[4,5],[],[],[7,8],[1,2,3,4,5,6,7,8,9],[0,1,2,3,4,5,6,7,8,9,10],[0,1,2,3,4,5,6,7,8,9,10,11],[0,1,2,3,4,5,6,7,8,9,10,11,12]] [VIs (.agg #[.int .i64 P, .slice A n c]), VIs (.agg #[.int .i64 P, .slice A n c]), VIs (.slice X (pw n) cx), VSl w (pw n) (invoL P xs), VIs (.agg #[.int .i64 P, .slice A n c]), VIs (.slice A3 n c3), VSl w (pw n) (vecTo n (unitRow n k) n), VIs (.agg #[.int .i64 P, .slice A n c]), VIs (.slice X (pw n) cx), VSl w (pw n) (revL P xs), VRow 3 [(invoL P xs), (vecTo n (unitRow n k) n), (revL P xs)], VSl w (pw n) (timesL P sq n [(invoL P xs), (vecTo n (unitRow n k) n), (revL P xs)]), VIs (.bool true), VIs (.bool false)] (fun w' => Blk w' w.heap.size 26 #[.int .i64 P, .slice A n c] ∧ Below w.heap.size w w' ∧ Below wr.heap.size wr w') (by kernel_rfl) (by kernel_rfl) (fun _ _ h hb => ⟨h.1.below hb h.1.lt, h.2.1.trans (hb.mono h.2.1.size), h.2.2.trans (hb.mono h.2.2.size)⟩) (⟨hk3.drew, hBr.drew, zG.drew⟩) (fun x => ?_)
           refine zS (fun w' hS hV K hK => ?_) ?_
           · obtain ⟨q0, q1⟩ := hS.1.two; go_simp; exact zO hK
           refine zS (fun w' hS hV K hK => ?_) ?_
           · obtain ⟨q0, q1⟩ := hS.1.two; go_simp; exact zO hK
           refine zS (fun w' hS hV K hK => ?_) ?_
           · obtain ⟨q0, q1⟩ := hS.1.two; go_simp; exact zO hK
           refine zS (fun w' hS hV K hK => ?_) ?_
           · have e1 := zQ hV 1; have e2 := zQ hV 2; obtain ⟨q0, q1⟩ := hS.1.two; go_simp; refine (involute_any P A n c _ (pw n) _ xs _ hp hp2 HPW64 (hx.below hS.2.1) hxs).mono ?_; rintro e w1 ⟨A2, c2, rfl, hM⟩; exact hK.out _ _ _ rfl rfl ⟨_, _, rfl, hM.after hS.2.1⟩ hM.b
           refine zS (fun w' hS hV K hK => ?_) ?_
           · obtain ⟨q0, q1⟩ := hS.1.two; go_simp; exact zO hK
           refine zS (fun w' hS hV K hK => ?_) ?_
           · obtain ⟨q0, q1⟩ := hS.1.two; go_simp; exact zO hK
           refine zS (fun w' hS hV K hK => ?_) ?_
           · have e4 := zQ hV 4; have e5 := zQ hV 5; obtain ⟨q0, q1⟩ := hS.1.two; go_simp; refine (vector_any P A n c _ _ (unitRow n k) _ (by omega) (hv.below hS.2.2)).mono ?_; rintro e w1 ⟨A2, c2, rfl, hM⟩; exact hK.out _ _ _ rfl rfl ⟨_, _, rfl, hM.after hS.2.1⟩ hM.b
           refine zS (fun w' hS hV K hK => ?_) ?_
           · obtain ⟨q0, q1⟩ := hS.1.two; go_simp; exact zO hK
           refine zS (fun w' hS hV K hK => ?_) ?_
           · obtain ⟨q0, q1⟩ := hS.1.two; go_simp; exact zO hK
           refine zS (fun w' hS hV K hK => ?_) ?_
           · have e7 := zQ hV 7; have e8 := zQ hV 8; obtain ⟨q0, q1⟩ := hS.1.two; go_simp; refine (reverse_any P A n c _ (pw n) _ xs _ hp hp2 HPW64 (hx.below hS.2.1) hxs).mono ?_; rintro e w1 ⟨A2, c2, rfl, hM⟩; exact hK.out _ _ _ rfl rfl ⟨_, _, rfl, hM.after hS.2.1⟩ hM.b
           refine zS (fun w' hS hV K hK => ?_) ?_
           · obtain ⟨A3, c3, e3, h3⟩ := hV 3 (by decide); obtain ⟨A6, c6, e6, h6⟩ := hV 6 (by decide); obtain ⟨A9, c9, e9, h9⟩ := hV 9 (by decide); obtain ⟨q0, q1⟩ := hS.1.two; go_simp; exact hK.out _ _ _ rfl rfl ⟨_, _, rfl, rdII_three (Blk.new _ _ _) (Rd.below (h3.rd) (zG.alloc (Nat.le_refl _) _)) (Rd.below (h6.rd) (zG.alloc (Nat.le_refl _) _)) (Rd.below (h9.rd) (zG.alloc (Nat.le_refl _) _)) (h3.2.cap) (h6.2.cap) (h9.2.cap)⟩ (zG.alloc (Nat.le_refl _) _)
           refine zS (fun w' hS hV K hK => ?_) ?_
           · have e0 := zQ hV 0; obtain ⟨A3, c3, e3, h3⟩ := hV 3 (by decide); obtain ⟨A6, c6, e6, h6⟩ := hV 6 (by decide); obtain ⟨A9, c9, e9, h9⟩ := hV 9 (by decide); obtain ⟨A10, c10, e10, h10⟩ := hV 10 (by decide); obtain ⟨q0, q1⟩ := hS.1.two; go_simp; refine (times_any P A n c sq _ 3 _ [(invoL P xs), (vecTo n (unitRow n k) n), (revL P xs)] _ hp hp2 hn (by omega) (ha.below hS.2.1) hs h10 (all_three ⟨(sgnL_nums (by omega) oddT hxs), Rd.lenI (h3.rd)⟩ ⟨(vecTo_nums (by omega) n (unitRow n k) HU n), Rd.lenI (h6.rd)⟩ ⟨(sgnL_nums (by omega) revT hxs), Rd.lenI (h9.rd)⟩)).mono ?_; rintro e w1 ⟨A2, c2, rfl, hM⟩; exact hK.out _ _ _ rfl rfl ⟨_, _, rfl, hM.after hS.2.1⟩ hM.b
           refine zS (fun w' hS hV K hK => ?_) ?_
           · obtain ⟨A11, c11, e11, h11⟩ := hV 11 (by decide); obtain ⟨q0, q1⟩ := hS.1.two; go_simp; refine (onlyGrade_b _ _ _ _ _ _ HPW64 h11.rd HO.out).mono ?_; rintro e w1 ⟨rfl, hb⟩; exact hK.out _ _ _ rfl rfl rfl hb
           refine zS (fun w' hS hV K hK => ?_) ?_
           · have e12 := zQ hV 12; obtain ⟨q0, q1⟩ := hS.1.two; go_simp; exact zO hK
           refine fun w' hS hV => ?_
           have hV := fun i hi => hV i (List.mem_range.1 hi)
           simp only [List.range, List.range.loop, zL, zM, zH, zI, VIs, VSl, VRow, VAny] at hV
           obtain ⟨e0, e1, e2, ⟨A3, c3, e3, h3⟩, e4, e5, ⟨A6, c6, e6, h6⟩, e7, e8, ⟨A9, c9, e9, h9⟩, ⟨A10, c10, e10, h10⟩, ⟨A11, c11, e11, h11⟩, e12, e13⟩ := hV
           simp only [e0, e1, e2, e3, e4, e5, e6, e7, e8, e9, e10, e11, e12, e13]
           clear e0 e1 e2 e3 e4 e5 e6 e7 e8 e9 e10 e11 e12 e13
           refine wpAny_done (by kernel_rfl) ?_ _
           go_wp2
           go_roundw
           case rel => exact ⟨k + 1, by omega, by go_num, by rw [List.range_succ, List.all_append, HAL.out]; simp [H4.out], hS.1, hS.2.1, hB5r.trans (hS.2.2.mono hB5r.size)⟩
           case measure => simp [intOf]; omega
       · obtain rfl : k = n := by omega
         go_wp2
         go_ret
         exact ⟨ret_bool (by unfold versB; rw [H1.out, H2.out, H3.out, HAL.out]; rfl), hBr⟩
set_option maxHeartbeats 3200000 in
set_option maxRecDepth 8000 in
theorem isVersor_E (P : Int) (A : Option Addr) (n c : Nat) (sq : List Int) (X : Option Addr) (cx : Nat) (xs : List Int) (w : World) (hp : 2 ≤ P) (hp2 : P ≤ 13) (hn : n ≤ 6) (ha : Rd w A n (ints sq)) (hs : NumsL P sq) (hx : Rd w X (pw n) (ints xs)) (hxs : NumsL P xs) (hcx : pw n ≤ cx) (h1 : ¬ nrmL P sq xs = 0) (h2 : onlyL (mulL P sq xs (revL P xs)) 0 = true) (h3 : mixB (gradesL xs) = false) (h4 : ¬ cntO (gradesL xs) = 0) :
    Calls Tryz.prog 98 #[.agg #[.int .i64 P, .slice A n c], .slice X (pw n) cx] w fun e w' => e = .returned (.bool (versB P sq n xs)) ∧ Below w.heap.size w w' := by
 have hB0 : Below w.heap.size w (w.alloc (.cells #[.int .i64 P, .slice A n c] 26)) := zG.alloc (Nat.le_refl _) _
 have k0 : Blk (w.alloc (.cells #[.int .i64 P, .slice A n c] 26)) w.heap.size 26 #[.int .i64 P, .slice A n c] := Blk.new _ _ _
 have HPW : pw n ≤ 65536 := Nat.le_trans (pw_le (show n ≤ 10 by omega)) (by decide)
 have HPW64 : pw n ≤ 64 := pw_le hn
 have hl7 := gradesL_len xs
 have hrg := gradesL_range xs
 have HT2 : Hid (timesL P sq n [xs, revL P xs] = mulL P sq xs (revL P xs)) := Lib.hid (timesL_two P sq n _ _ hx.lenI hxs)
 obtain ⟨gs, hgs⟩ : ∃ gs, gs = gradesL xs := ⟨_, rfl⟩
 have HGS := Lib.hid hgs
 rw [← hgs] at hl7 hrg
 have HMC : Hid (mixB gs = (((cntO gs : Nat) : Int) != 0 && ((cntO gs : Nat) : Int) != ((gs.length : Nat) : Int))) := Lib.hid (mix_cnt fun g hg => (hrg g hg).1)
 clear hgs
 have b1 : (nrmL P sq xs == 0) = false := by simp [h1]
 have H1 := Lib.hid b1
 have H2 := Lib.hid h2
 have HO : Hid (onlyL (timesL P sq n [xs, revL P xs]) 0 = true) := Lib.hid (by rw [HT2.out]; exact h2)
 have H3 := Lib.hid h3
 have c1 : (((cntO gs : Nat) : Int) != 0) = true := by rw [HGS.out]; simp [h4]
 have c2 : (((cntO gs : Nat) : Int) != ((gs.length : Nat) : Int)) = false := by
  have := HMC.out
  rw [HGS.out, h3, ← HGS.out, c1, Bool.true_and] at this
  exact this.symm
 clear h4
 clear h1 h2 h3
 · skip
   go_enter Tryz.func98, Tryz.ntmps98
   go_wp2_with fail
   refine (gradesOf_any X (pw n) cx xs _ HPW64 (hx.below hB0)).mono ?_
   rintro e w1 ⟨A', c', rfl, hM⟩
   have hB1 := hB0.trans (hM.b.mono (by simp))
   have k1 := k0.below hM.b k0.lt
   rw [← HGS.out] at hM ⊢
   obtain ⟨l, hl⟩ : ∃ l, l = gs.length := ⟨_, rfl⟩
   rw [← hl] at hM hl7 ⊢
   have HL := Lib.hid hl
   clear hl k0 hB0
   go_wp2_with fail
   go_loop [5, 8, 15] (fun o _ i => ∃ k : Nat, k ≤ l ∧ i = .int .i64 k ∧ o = .int .i64 ((cntO (gs.take k) : Nat) : Int)) (fun _ _ i => l - (intOf i).toNat)
   case atStart => exact ⟨0, by omega, rfl, rfl⟩
   case round =>
    obtain ⟨k, hk, rfl, rfl⟩ := hrel
    by_cases hlt : k < l
    · obtain ⟨g, o, rfl, hxk, hcx'⟩ := hM.rd.int hlt
      obtain ⟨r1, r2⟩ := hrg _ (List.getElem_mem hxk)
      have HC := Lib.hid (cntO_take hxk r1)
      have hcl := cntO_le (gs.take k)
      have hcl2 : (gs.take k).length ≤ k := List.length_take_le _ _
      obtain ⟨q, hq⟩ : ∃ q, q = cntO (gs.take k) := ⟨_, rfl⟩
      rw [← hq] at hcl ⊢
      have HQ := Lib.hid hq
      clear hq
      go_wp2
      go_round
      case rel => exact ⟨k + 1, by omega, by go_num, by rw [HC.out, HQ.out]⟩
      case measure => simp [intOf]; omega
    · obtain rfl : k = l := by omega
      have e0 : gs.take k = gs := List.take_of_length_le (by rw [← HL.out]; omega)
      rw [e0]
      clear e0
      have hw' : w1 = w1 := rfl
      have k2 := k1
      have hB2 := hB1
      clear k1 hB1
      try rw [← HL.out] at c2
      go_wp2
      refine wp_obs 25 [[],[],[0,1],[0,1,2],[0,1,2,3],[0,1,2,3,4],[0,1,2,3,4],[0,1,2,3,4],[0,1,2,3,4],[0,1,2,3,4,7,8],[0,1,2,3,4,6,7,8,9],[0,1,2,3,4,5,6,7,8,9,10],[0,1,2,3,4,5,6,7,8,9,10,11],[0,1,2,3,4,5,6,7,8,9,10,11,12],[0,1,2,3,4,5,6,7,8,9,10,11,12,13],[0,1,2,3,4,5,6,7,8,9,10,11,12,13,14],[0,1,2,3,4,5,6,7,8,9,10,11,12,13,14,15],[0,1,2,3,4,5,6,7,8,9,10,11,12,13,14,15,16],[0,1,2,3,4,5,6,7,8,9,10,11,12,13,14,15,16,17],[0,1,2,3,4,5,6,7,8,9,10,11,12,13,14,15,16,17,18],[0,1,2,3,4,5,6,7,8,9,10,11,12,13,14,15,16,17,18],[0,1,2,3,4,5,6,7,8,9,10,11,12,13,14,15,16,17,18,20],[0,1,2,3,4,5,6,7,8,9,10,11,12,13,14,15,16,17,18,19,20,21],[0,1,2,3,4,5,6,7,8,9,10,11,12,13,14,15,16,17,18,19,20,21,22],[0,1,2,3,4,5,6,7,8,9,10,11,12,13,14,15,16,17,18,19,20,21,22,23]] [VIs (.agg #[.int .i64 P, .slice A n c]), VIs (.slice X (pw n) cx), VIs (.int .i64 (nrmL P sq xs)), VIs (.bool false), VIs (.bool false), VIs (.agg #[.int .i64 P, .slice A n c]), VIs (.slice X (pw n) cx), VIs (.agg #[.int .i64 P, .slice A n c]), VIs (.slice X (pw n) cx), VSl w (pw n) (revL P xs), VRow 2 [xs, (revL P xs)], VSl w (pw n) (timesL P sq n [xs, (revL P xs)]), VIs (.bool true), VIs (.bool false), VIs (.bool false), VIs (.bool false), VIs (.int .i64 ((cntO gs : Nat) : Int)), VIs (.bool true), VIs (.bool true), VIs (.int .i64 ((cntO gs : Nat) : Int)), VIs (.slice A' k c'), VIs (.int .i64 ((k : Nat) : Int)), VIs (.bool false), VIs (.bool false), VIs (.bool false)] (fun w' => Blk w' w.heap.size 26 #[.int .i64 P, .slice A n c] ∧ Below w.heap.size w w') (by kernel_rfl) (by kernel_rfl) (fun _ _ h hb => ⟨h.1.below hb h.1.lt, h.2.trans (hb.mono h.2.size)⟩) (⟨k2.drew, hB2.drew⟩) (fun x => ?_)
      refine zS (fun w' hS hV K hK => ?_) ?_
      · obtain ⟨q0, q1⟩ := hS.1.two; go_simp; exact zO hK
      refine zS (fun w' hS hV K hK => ?_) ?_
      · obtain ⟨q0, q1⟩ := hS.1.two; go_simp; exact zO hK
      refine zS (fun w' hS hV K hK => ?_) ?_
      · have e0 := zQ hV 0; have e1 := zQ hV 1; obtain ⟨q0, q1⟩ := hS.1.two; go_simp; refine (spinorNorm_any P A n c sq _ _ xs _ hp hp2 hn (ha.below hS.2) hs (hx.below hS.2) hxs hcx).mono ?_; rintro e w1 ⟨rfl, hb⟩; exact hK.out _ _ _ rfl rfl rfl hb
      refine zS (fun w' hS hV K hK => ?_) ?_
      · have e2 := zQ hV 2; obtain ⟨q0, q1⟩ := hS.1.two; go_simp; exact zO hK
      refine zS (fun w' hS hV K hK => ?_) ?_
      · have e3 := zQ hV 3; obtain ⟨q0, q1⟩ := hS.1.two; go_simp; exact zO hK
      refine zS (fun w' hS hV K hK => ?_) ?_
      · have e4 := zQ hV 4; obtain ⟨q0, q1⟩ := hS.1.two; go_simp; exact zO hK
      refine zS (fun w' hS hV K hK => ?_) ?_
      · have e4 := zQ hV 4; obtain ⟨q0, q1⟩ := hS.1.two; go_simp; exact zO hK
      refine zS (fun w' hS hV K hK => ?_) ?_
      · have e4 := zQ hV 4; obtain ⟨q0, q1⟩ := hS.1.two; go_simp; exact zO hK
      refine zS (fun w' hS hV K hK => ?_) ?_
      · have e4 := zQ hV 4; obtain ⟨q0, q1⟩ := hS.1.two; go_simp; exact zO hK
      refine zS (fun w' hS hV K hK => ?_) ?_
      · have e4 := zQ hV 4; have e7 := zQ hV 7; have e8 := zQ hV 8; obtain ⟨q0, q1⟩ := hS.1.two; go_simp; refine (reverse_any P A n c _ (pw n) _ xs _ hp hp2 HPW64 (hx.below hS.2) hxs).mono ?_; rintro e w1 ⟨A2, c2, rfl, hM⟩; exact hK.out _ _ _ rfl rfl ⟨_, _, rfl, hM.after hS.2⟩ hM.b
      refine zS (fun w' hS hV K hK => ?_) ?_
      · have e4 := zQ hV 4; have e6 := zQ hV 6; obtain ⟨A9, c9, e9, h9⟩ := hV 9 (by decide); obtain ⟨q0, q1⟩ := hS.1.two; go_simp; exact hK.out _ _ _ rfl rfl ⟨_, _, rfl, rdII_two (Blk.new _ _ _) (Rd.below ((hx.below hS.2)) (zG.alloc (Nat.le_refl _) _)) (Rd.below (h9.rd) (zG.alloc (Nat.le_refl _) _)) (hcx) (h9.2.cap)⟩ (zG.alloc (Nat.le_refl _) _)
      refine zS (fun w' hS hV K hK => ?_) ?_
      · have e4 := zQ hV 4; have e5 := zQ hV 5; obtain ⟨A9, c9, e9, h9⟩ := hV 9 (by decide); obtain ⟨A10, c10, e10, h10⟩ := hV 10 (by decide); obtain ⟨q0, q1⟩ := hS.1.two; go_simp; refine (times_any P A n c sq _ 2 _ [xs, (revL P xs)] _ hp hp2 hn (by omega) (ha.below hS.2) hs h10 (all_two ⟨hxs, Rd.lenI ((hx.below hS.2))⟩ ⟨(sgnL_nums (by omega) revT hxs), Rd.lenI (h9.rd)⟩)).mono ?_; rintro e w1 ⟨A2, c2, rfl, hM⟩; exact hK.out _ _ _ rfl rfl ⟨_, _, rfl, hM.after hS.2⟩ hM.b
      refine zS (fun w' hS hV K hK => ?_) ?_
      · have e4 := zQ hV 4; obtain ⟨A11, c11, e11, h11⟩ := hV 11 (by decide); obtain ⟨q0, q1⟩ := hS.1.two; go_simp; refine (onlyGrade_b _ _ _ _ _ _ HPW64 h11.rd HO.out).mono ?_; rintro e w1 ⟨rfl, hb⟩; exact hK.out _ _ _ rfl rfl rfl hb
      refine zS (fun w' hS hV K hK => ?_) ?_
      · have e4 := zQ hV 4; have e12 := zQ hV 12; obtain ⟨q0, q1⟩ := hS.1.two; go_simp; exact zO hK
      refine zS (fun w' hS hV K hK => ?_) ?_
      · have e4 := zQ hV 4; have e13 := zQ hV 13; obtain ⟨q0, q1⟩ := hS.1.two; go_simp; exact zO hK
      refine zS (fun w' hS hV K hK => ?_) ?_
      · have e14 := zQ hV 14; obtain ⟨q0, q1⟩ := hS.1.two; go_simp; exact zO hK
      refine zS (fun w' hS hV K hK => ?_) ?_
      · have e15 := zQ hV 15; obtain ⟨q0, q1⟩ := hS.1.two; go_simp; exact zO hK
      refine zS (fun w' hS hV K hK => ?_) ?_
      · have e15 := zQ hV 15; have e16 := zQ hV 16; obtain ⟨q0, q1⟩ := hS.1.two; go_simp; exact zO hK
      refine zS (fun w' hS hV K hK => ?_) ?_
      · have e15 := zQ hV 15; have e17 := zQ hV 17; obtain ⟨q0, q1⟩ := hS.1.two; go_simp; exact zO hK
      refine zS (fun w' hS hV K hK => ?_) ?_
      · have e18 := zQ hV 18; obtain ⟨q0, q1⟩ := hS.1.two; go_simp; exact zO hK
      refine zS (fun w' hS hV K hK => ?_) ?_
      · have e18 := zQ hV 18; obtain ⟨q0, q1⟩ := hS.1.two; go_simp; exact zO hK
      refine zS (fun w' hS hV K hK => ?_) ?_
      · have e18 := zQ hV 18; have e20 := zQ hV 20; obtain ⟨q0, q1⟩ := hS.1.two; go_simp; exact zO hK
      refine zS (fun w' hS hV K hK => ?_) ?_
      · have e18 := zQ hV 18; have e19 := zQ hV 19; have e21 := zQ hV 21; obtain ⟨q0, q1⟩ := hS.1.two; go_simp; exact zO hK
      refine zS (fun w' hS hV K hK => ?_) ?_
      · have e15 := zQ hV 15; have e18 := zQ hV 18; have e22 := zQ hV 22; obtain ⟨q0, q1⟩ := hS.1.two; go_simp; exact zO hK
      refine zS (fun w' hS hV K hK => ?_) ?_
      · have e15 := zQ hV 15; have e23 := zQ hV 23; obtain ⟨q0, q1⟩ := hS.1.two; go_simp; exact zO hK
      refine fun w' hS hV => ?_
      have hV := fun i hi => hV i (List.mem_range.1 hi)
      simp only [List.range, List.range.loop, zL, zM, zH, zI, VIs, VSl, VRow, VAny] at hV
      obtain ⟨e0, e1, e2, e3, e4, e5, e6, e7, e8, ⟨A9, c9, e9, h9⟩, ⟨A10, c10, e10, h10⟩, ⟨A11, c11, e11, h11⟩, e12, e13, e14, e15, e16, e17, e18, e19, e20, e21, e22, e23, e24⟩ := hV
      simp only [e0, e1, e2, e3, e4, e5, e6, e7, e8, e9, e10, e11, e12, e13, e14, e15, e16, e17, e18, e19, e20, e21, e22, e23, e24]
      clear e0 e1 e2 e3 e4 e5 e6 e7 e8 e9 e10 e11 e12 e13 e14 e15 e16 e17 e18 e19 e20 e21 e22 e23 e24
      refine wpAny_done (by kernel_rfl) ?_ _
      have hB3 := hS.2
      have k3 := hS.1
      clear hS k2 hB2
      obtain ⟨q0, q1⟩ := k3.two
      go_wp2_with fail
      refine (dim_any _ _ _ _ _).mono ?_
      rintro e w4 ⟨rfl, hb4⟩
      have hB4 := hB3.trans (hb4.mono hB3.size)
      have k4 := k3.below hb4 k3.lt
      clear q0 q1 k3 hB3
      go_wp2_with fail
      refine (unit_any n _ (by omega)).mono ?_
      rintro e w5 ⟨U, cu, rfl, hU⟩
      have hB5 := hB4.trans (hU.b.mono hB4.size)
      have k5 := k4.below hU.b k4.lt
      have hUR := hU.rd
      have HUT := Lib.hid (fun i hi => @unitM_getD n i hi)
      clear k4 hB4 hU hb4
      go_wp2_with fail
      go_loopw [10, 53] (fun _ i wr => ∃ k : Nat, k ≤ n ∧ i = .int .i64 k ∧ (List.range k).all (fun i => onlyL (imgL P sq n xs i) 1) = true ∧ Blk wr w.heap.size 26 #[.int .i64 P, .slice A n c] ∧ Below w.heap.size w wr ∧ Below w5.heap.size w5 wr) (fun _ i _ => n - (intOf i).toNat)
      case atStart => exact ⟨0, by omega, rfl, rfl, k5, hB5, Below.refl _ _⟩
      case round =>
       obtain ⟨k, hk, rfl, hal, hk3, hBr, hB5r⟩ := hrel
       have HAL := Lib.hid hal
       clear hal k5 hB5
       by_cases hlt : k < n
       · obtain ⟨gu, ou, rfl, hxk, A3, c3, hcu, hv0, hcc⟩ := (hUR.below hB5r).at_ hlt
         have hv := hv0
         rw [unitM_get, unitRow_len] at hv hcc
         rw [unitM_get, unitRow_len] at hcu
         clear hv0
         have HU := unitRow_nums hp n k
         have HT3 : Hid (timesL P sq n [invoL P xs, vecTo n (unitRow n k) n, revL P xs] = imgL P sq n xs k) := Lib.hid (timesL_three P sq n _ _ _ (by unfold invoL; rw [sgnL_len, hx.lenI]) (sgnL_nums (by omega) oddT hxs))
         cases ho : onlyL (imgL P sq n xs k) 1
         · have HO : Hid (onlyL (timesL P sq n [invoL P xs, vecTo n (unitRow n k) n, revL P xs]) 1 = false) := Lib.hid (by rw [HT3.out]; exact ho)
           have H4 := Lib.hid ho
           clear ho
           go_wp2
           refine wp_obs 14 [[],[],[],[1,2],[],[],[4,5],[],[],[7,8],[1,2,3,4,5,6,7,8,9],[0,1,2,3,4,5,6,7,8,9,10],[0,1,2,3,4,5,6,7,8,9,10,11],[0,1,2,3,4,5,6,7,8,9,10,11,12]] [VIs (.agg #[.int .i64 P, .slice A n c]), VIs (.agg #[.int .i64 P, .slice A n c]), VIs (.slice X (pw n) cx), VSl w (pw n) (invoL P xs), VIs (.agg #[.int .i64 P, .slice A n c]), VIs (.slice A3 n c3), VSl w (pw n) (vecTo n (unitRow n k) n), VIs (.agg #[.int .i64 P, .slice A n c]), VIs (.slice X (pw n) cx), VSl w (pw n) (revL P xs), VRow 3 [(invoL P xs), (vecTo n (unitRow n k) n), (revL P xs)], VSl w (pw n) (timesL P sq n [(invoL P xs), (vecTo n (unitRow n k) n), (revL P xs)]), VIs (.bool false), VIs (.bool true)] (fun w' => Blk w' w.heap.size 26 #[.int .i64 P, .slice A n c] ∧ Below w.heap.size w w' ∧ Below wr.heap.size wr w') (by kernel_rfl) (by kernel_rfl) (fun _ _ h hb => ⟨h.1.below hb h.1.lt, h.2.1.trans (hb.mono h.2.1.size), h.2.2.trans (hb.mono h.2.2.size)⟩) (⟨hk3.drew, hBr.drew, zG.drew⟩) (fun x => ?_)
           refine zS (fun w' hS hV K hK => ?_) ?_
           · obtain ⟨q0, q1⟩ := hS.1.two; go_simp; exact zO hK
           refine zS (fun w' hS hV K hK => ?_) ?_
           · obtain ⟨q0, q1⟩ := hS.1.two; go_simp; exact zO hK
           refine zS (fun w' hS hV K hK => ?_) ?_
           · obtain ⟨q0, q1⟩ := hS.1.two; go_simp; exact zO hK
           refine zS (fun w' hS hV K hK => ?_) ?_
           · have e1 := zQ hV 1; have e2 := zQ hV 2; obtain ⟨q0, q1⟩ := hS.1.two; go_simp; refine (involute_any P A n c _ (pw n) _ xs _ hp hp2 HPW64 (hx.below hS.2.1) hxs).mono ?_; rintro e w1 ⟨A2, c2, rfl, hM⟩; exact hK.out _ _ _ rfl rfl ⟨_, _, rfl, hM.after hS.2.1⟩ hM.b
           refine zS (fun w' hS hV K hK => ?_) ?_
           · obtain ⟨q0, q1⟩ := hS.1.two; go_simp; exact zO hK
           refine zS (fun w' hS hV K hK => ?_) ?_
           · obtain ⟨q0, q1⟩ := hS.1.two; go_simp; exact zO hK
           refine zS (fun w' hS hV K hK => ?_) ?_
           · have e4 := zQ hV 4; have e5 := zQ hV 5; obtain ⟨q0, q1⟩ := hS.1.two; go_simp; refine (vector_any P A n c _ _ (unitRow n k) _ (by omega) (hv.below hS.2.2)).mono ?_; rintro e w1 ⟨A2, c2, rfl, hM⟩; exact hK.out _ _ _ rfl rfl ⟨_, _, rfl, hM.after hS.2.1⟩ hM.b
           refine zS (fun w' hS hV K hK => ?_) ?_
           · obtain ⟨q0, q1⟩ := hS.1.two; go_simp; exact zO hK
           refine zS (fun w' hS hV K hK => ?_) ?_
           · obtain ⟨q0, q1⟩ := hS.1.two; go_simp; exact zO hK
           refine zS (fun w' hS hV K hK => ?_) ?_
           · have e7 := zQ hV 7; have e8 := zQ hV 8; obtain ⟨q0, q1⟩ := hS.1.two; go_simp; refine (reverse_any P A n c _ (pw n) _ xs _ hp hp2 HPW64 (hx.below hS.2.1) hxs).mono ?_; rintro e w1 ⟨A2, c2, rfl, hM⟩; exact hK.out _ _ _ rfl rfl ⟨_, _, rfl, hM.after hS.2.1⟩ hM.b
           refine zS (fun w' hS hV K hK => ?_) ?_
           · obtain ⟨A3, c3, e3, h3⟩ := hV 3 (by decide); obtain ⟨A6, c6, e6, h6⟩ := hV 6 (by decide); obtain ⟨A9, c9, e9, h9⟩ := hV 9 (by decide); obtain ⟨q0, q1⟩ := hS.1.two; go_simp; exact hK.out _ _ _ rfl rfl ⟨_, _, rfl, rdII_three (Blk.new _ _ _) (Rd.below (h3.rd) (zG.alloc (Nat.le_refl _) _)) (Rd.below (h6.rd) (zG.alloc (Nat.le_refl _) _)) (Rd.below (h9.rd) (zG.alloc (Nat.le_refl _) _)) (h3.2.cap) (h6.2.cap) (h9.2.cap)⟩ (zG.alloc (Nat.le_refl _) _)
           refine zS (fun w' hS hV K hK => ?_) ?_
           · have e0 := zQ hV 0; obtain ⟨A3, c3, e3, h3⟩ := hV 3 (by decide); obtain ⟨A6, c6, e6, h6⟩ := hV 6 (by decide); obtain ⟨A9, c9, e9, h9⟩ := hV 9 (by decide); obtain ⟨A10, c10, e10, h10⟩ := hV 10 (by decide); obtain ⟨q0, q1⟩ := hS.1.two; go_simp; refine (times_any P A n c sq _ 3 _ [(invoL P xs), (vecTo n (unitRow n k) n), (revL P xs)] _ hp hp2 hn (by omega) (ha.below hS.2.1) hs h10 (all_three ⟨(sgnL_nums (by omega) oddT hxs), Rd.lenI (h3.rd)⟩ ⟨(vecTo_nums (by omega) n (unitRow n k) HU n), Rd.lenI (h6.rd)⟩ ⟨(sgnL_nums (by omega) revT hxs), Rd.lenI (h9.rd)⟩)).mono ?_; rintro e w1 ⟨A2, c2, rfl, hM⟩; exact hK.out _ _ _ rfl rfl ⟨_, _, rfl, hM.after hS.2.1⟩ hM.b
           refine zS (fun w' hS hV K hK => ?_) ?_
           · obtain ⟨A11, c11, e11, h11⟩ := hV 11 (by decide); obtain ⟨q0, q1⟩ := hS.1.two; go_simp; refine (onlyGrade_b _ _ _ _ _ _ HPW64 h11.rd HO.out).mono ?_; rintro e w1 ⟨rfl, hb⟩; exact hK.out _ _ _ rfl rfl rfl hb
           refine zS (fun w' hS hV K hK => ?_) ?_
           · have e12 := zQ hV 12; obtain ⟨q0, q1⟩ := hS.1.two; go_simp; exact zO hK
           refine fun w' hS hV => ?_
           have hV := fun i hi => hV i (List.mem_range.1 hi)
           simp only [List.range, List.range.loop, zL, zM, zH, zI, VIs, VSl, VRow, VAny] at hV
           obtain ⟨e0, e1, e2, ⟨A3, c3, e3, h3⟩, e4, e5, ⟨A6, c6, e6, h6⟩, e7, e8, ⟨A9, c9, e9, h9⟩, ⟨A10, c10, e10, h10⟩, ⟨A11, c11, e11, h11⟩, e12, e13⟩ := hV
           simp only [e0, e1, e2, e3, e4, e5, e6, e7, e8, e9, e10, e11, e12, e13]
           clear e0 e1 e2 e3 e4 e5 e6 e7 e8 e9 e10 e11 e12 e13
           refine wpAny_done (by kernel_rfl) ?_ _
           go_wp2
           go_ret
           refine ⟨ret_bool ?_, hS.2.1⟩
           have : ((List.range n).all fun i => onlyL (imgL P sq n xs i) 1) = false := by
            rw [List.all_eq_false]
            exact ⟨k, by simpa using hlt, by rw [H4.out]; decide⟩
           unfold versB
           rw [this, Bool.and_false]
         · have HO : Hid (onlyL (timesL P sq n [invoL P xs, vecTo n (unitRow n k) n, revL P xs]) 1 = true) := Lib.hid (by rw [HT3.out]; exact ho)
           have H4 := Lib.hid ho
           clear ho
           go_wp2
           refine wp_obs 14 [[],[],[],[1,2],[],[],[4,5],[],[],[7,8],[1,2,3,4,5,6,7,8,9],[0,1,2,3,4,5,6,7,8,9,10],[0,1,2,3,4,5,6,7,8,9,10,11],[0,1,2,3,4,5,6,7,8,9,10,11,12]] [VIs (.agg #[.int .i64 P, .slice A n c]), VIs (.agg #[.int .i64 P, .slice A n c]), VIs (.slice X (pw n) cx), VSl w (pw n) (invoL P xs), VIs (.agg #[.int .i64 P, .slice A n c]), VIs (.slice A3 n c3), VSl w (pw n) (vecTo n (unitRow n k) n), VIs (.agg #[.int .i64 P, .slice A n c]), VIs (.slice X (pw n) cx), VSl w (pw n) (revL P xs), VRow 3 [(invoL P xs), (vecTo n (unitRow n k) n), (revL P xs)], VSl w (pw n) (timesL P sq n [(invoL P xs), (vecTo n (unitRow n k) n), (revL P xs)]), VIs (.bool true), VIs (.bool false)] (fun w' => Blk w' w.heap.size 26 #[.int .i64 P, .slice A n c] ∧ Below w.heap.size w w' ∧ Below wr.heap.size wr w') (by kernel_rfl) (by kernel_rfl) (fun _ _ h hb => ⟨h.1.below hb h.1.lt, h.2.1.trans (hb.mono h.2.1.size), h.2.2.trans (hb.mono h.2.2.size)⟩) (⟨hk3.drew, hBr.drew, zG.drew⟩) (fun x => ?_)
           refine zS (fun w' hS hV K hK => ?_) ?_
           · obtain ⟨q0, q1⟩ := hS.1.two; go_simp; exact zO hK
           refine zS (fun w' hS hV K hK => ?_) ?_
           · obtain ⟨q0, q1⟩ := hS.1.two; go_simp; exact zO hK
           refine zS (fun w' hS hV K hK => ?_) ?_
           · obtain ⟨q0, q1⟩ := hS.1.two; go_simp; exact zO hK
           refine zS (fun w' hS hV K hK => ?_) ?_
           · have e1 := zQ hV 1; have e2 := zQ hV 2; obtain ⟨q0, q1⟩ := hS.1.two; go_simp; refine (involute_any P A n c _ (pw n) _ xs _ hp hp2 HPW64 (hx.below hS.2.1) hxs).mono ?_; rintro e w1 ⟨A2, c2, rfl, hM⟩; exact hK.out _ _ _ rfl rfl ⟨_, _, rfl, hM.after hS.2.1⟩ hM.b
           refine zS (fun w' hS hV K hK => ?_) ?_
           · obtain ⟨q0, q1⟩ := hS.1.two; go_simp; exact zO hK
           refine zS (fun w' hS hV K hK => ?_) ?_
           · obtain ⟨q0, q1⟩ := hS.1.two; go_simp; exact zO hK
           refine zS (fun w' hS hV K hK => ?_) ?_
           · have e4 := zQ hV 4; have e5 := zQ hV 5; obtain ⟨q0, q1⟩ := hS.1.two; go_simp; refine (vector_any P A n c _ _ (unitRow n k) _ (by omega) (hv.below hS.2.2)).mono ?_; rintro e w1 ⟨A2, c2, rfl, hM⟩; exact hK.out _ _ _ rfl rfl ⟨_, _, rfl, hM.after hS.2.1⟩ hM.b
           refine zS (fun w' hS hV K hK => ?_) ?_
           · obtain ⟨q0, q1⟩ := hS.1.two; go_simp; exact zO hK
           refine zS (fun w' hS hV K hK => ?_) ?_
           · obtain ⟨q0, q1⟩ := hS.1.two; go_simp; exact zO hK
           refine zS (fun w' hS hV K hK => ?_) ?_
           · have e7 := zQ hV 7; have e8 := zQ hV 8; obtain ⟨q0, q1⟩ := hS.1.two; go_simp; refine (reverse_any P A n c _ (pw n) _ xs _ hp hp2 HPW64 (hx.below hS.2.1) hxs).mono ?_; rintro e w1 ⟨A2, c2, rfl, hM⟩; exact hK.out _ _ _ rfl rfl ⟨_, _, rfl, hM.after hS.2.1⟩ hM.b
           refine zS (fun w' hS hV K hK => ?_) ?_
           · obtain ⟨A3, c3, e3, h3⟩ := hV 3 (by decide); obtain ⟨A6, c6, e6, h6⟩ := hV 6 (by decide); obtain ⟨A9, c9, e9, h9⟩ := hV 9 (by decide); obtain ⟨q0, q1⟩ := hS.1.two; go_simp; exact hK.out _ _ _ rfl rfl ⟨_, _, rfl, rdII_three (Blk.new _ _ _) (Rd.below (h3.rd) (zG.alloc (Nat.le_refl _) _)) (Rd.below (h6.rd) (zG.alloc (Nat.le_refl _) _)) (Rd.below (h9.rd) (zG.alloc (Nat.le_refl _) _)) (h3.2.cap) (h6.2.cap) (h9.2.cap)⟩ (zG.alloc (Nat.le_refl _) _)
           refine zS (fun w' hS hV K hK => ?_) ?_
           · have e0 := zQ hV 0; obtain ⟨A3, c3, e3, h3⟩ := hV 3 (by decide); obtain ⟨A6, c6, e6, h6⟩ := hV 6 (by decide); obtain ⟨A9, c9, e9, h9⟩ := hV 9 (by decide); obtain ⟨A10, c10, e10, h10⟩ := hV 10 (by decide); obtain ⟨q0, q1⟩ := hS.1.two; go_simp; refine (times_any P A n c sq _ 3 _ [(invoL P xs), (vecTo n (unitRow n k) n), (revL P xs)] _ hp hp2 hn (by omega) (ha.below hS.2.1) hs h10 (all_three ⟨(sgnL_nums (by omega) oddT hxs), Rd.lenI (h3.rd)⟩ ⟨(vecTo_nums (by omega) n (unitRow n k) HU n), Rd.lenI (h6.rd)⟩ ⟨(sgnL_nums (by omega) revT hxs), Rd.lenI (h9.rd)⟩)).mono ?_; rintro e w1 ⟨A2, c2, rfl, hM⟩; exact hK.out _ _ _ rfl rfl ⟨_, _, rfl, hM.after hS.2.1⟩ hM.b
           refine zS (fun w' hS hV K hK => ?_) ?_
           · obtain ⟨A11, c11, e11, h11⟩ := hV 11 (by decide); obtain ⟨q0, q1⟩ := hS.1.two; go_simp; refine (onlyGrade_b _ _ _ _ _ _ HPW64 h11.rd HO.out).mono ?_; rintro e w1 ⟨rfl, hb⟩; exact hK.out _ _ _ rfl rfl rfl hb
           refine zS (fun w' hS hV K hK => ?_) ?_
           · have e12 := zQ hV 12; obtain ⟨q0, q1⟩ := hS.1.two; go_simp; exact zO hK
           refine fun w' hS hV => ?_
           have hV := fun i hi => hV i (List.mem_range.1 hi)
           simp only [List.range, List.range.loop, zL, zM, zH, zI, VIs, VSl, VRow, VAny] at hV
           obtain ⟨e0, e1, e2, ⟨A3, c3, e3, h3⟩, e4, e5, ⟨A6, c6, e6, h6⟩, e7, e8, ⟨A9, c9, e9, h9⟩, ⟨A10, c10, e10, h10⟩, ⟨A11, c11, e11, h11⟩, e12, e13⟩ := hV
           simp only [e0, e1, e2, e3, e4, e5, e6, e7, e8, e9, e10, e11, e12, e13]
           clear e0 e1 e2 e3 e4 e5 e6 e7 e8 e9 e10 e11 e12 e13
           refine wpAny_done (by kernel_rfl) ?_ _
           go_wp2
           go_roundw
           case rel => exact ⟨k + 1, by omega, by go_num, by rw [List.range_succ, List.all_append, HAL.out]; simp [H4.out], hS.1, hS.2.1, hB5r.trans (hS.2.2.mono hB5r.size)⟩
           case measure => simp [intOf]; omega
       · obtain rfl : k = n := by omega
         go_wp2
         go_ret
         exact ⟨ret_bool (by unfold versB; rw [H1.out, H2.out, H3.out, HAL.out]; rfl), hBr⟩
theorem isVersor_any (P : Int) (A : Option Addr) (n c : Nat) (sq : List Int) (X : Option Addr) (cx : Nat) (xs : List Int) (w : World) (hp : 2 ≤ P) (hp2 : P ≤ 13) (hn : n ≤ 6) (ha : Rd w A n (ints sq)) (hs : NumsL P sq) (hx : Rd w X (pw n) (ints xs)) (hxs : NumsL P xs) (hcx : pw n ≤ cx) :
    Calls Tryz.prog 98 #[.agg #[.int .i64 P, .slice A n c], .slice X (pw n) cx] w fun e w' => e = .returned (.bool (versB P sq n xs)) ∧ Below w.heap.size w w' := by
 by_cases h1 : nrmL P sq xs = 0
 · exact isVersor_A P A n c sq X cx xs w hp hp2 hn ha hs hx hxs hcx h1
 · cases h2 : onlyL (mulL P sq xs (revL P xs)) 0
   · exact isVersor_B P A n c sq X cx xs w hp hp2 hn ha hs hx hxs hcx h1 h2
   · cases h3 : mixB (gradesL xs)
     · by_cases h4 : cntO (gradesL xs) = 0
       · exact isVersor_D P A n c sq X cx xs w hp hp2 hn ha hs hx hxs hcx h1 h2 h3 h4
       · exact isVersor_E P A n c sq X cx xs w hp hp2 hn ha hs hx hxs hcx h1 h2 h3 h4
     · exact isVersor_C P A n c sq X cx xs w hp hp2 hn ha hs hx hxs hcx h1 h2 h3
end Go.Proofs.YtmkjdpnoloofjaaGreat
namespace Go.Proofs.YtmkjdpnoloofjaaGreat
def swn (a b : Nat) : Nat → Nat
 | 0 => 0
 | i + 1 => swn a b i + (if bit b i = 1 then pcn (a / 2 ^ (i + 1)) 6 else 0)
def rvn (k : Nat) : Nat := k * (k - 1) / 2
theorem rev_all : ∀ a : Nat, a < 64 → ∀ b : Nat, b < 64 → (swn a b 6 + swn b a 6 + rvn (pcn a 6) + rvn (pcn b 6) + rvn (pcn (a ^^^ b) 6)) % 2 = 0 := by decide +kernel
theorem swaps_swn {a b : Nat} (ha : a < 64) : ∀ n, swaps a b n = swn a b n := by
 intro n
 induction n with
 | zero => rfl
 | succ n ih =>
  simp only [swaps, swn]
  rw [ih, pc_pcn 6 _ (Nat.lt_of_le_of_lt (Nat.div_le_self _ _) (by simpa using ha))]
theorem bit_high {b n i : Nat} (hb : b < 2 ^ n) (h : n ≤ i) : bit b i = 0 := by
 unfold bit
 rw [Nat.div_eq_of_lt (Nat.lt_of_lt_of_le hb (Nat.pow_le_pow_right (by decide) h))]
theorem swaps_more {a b n : Nat} (hb : b < 2 ^ n) : ∀ k, swaps a b (n + k) = swaps a b n := by
 intro k
 induction k with
 | zero => rfl
 | succ k ih =>
  rw [← Nat.add_assoc]
  simp only [swaps]
  rw [ih, bit_high hb (by omega)]
  rfl
theorem swaps_six {a b n : Nat} (hn : n ≤ 6) (ha : a < pw n) (hb : b < pw n) : swaps a b n = swn a b 6 := by
 have h64 : a < 64 := Nat.lt_of_lt_of_le ha (pw_le (k := 6) hn)
 rw [← swaps_swn h64, show 6 = n + (6 - n) by omega, swaps_more hb]
/-- The sign of a blade when it is reversed, and when it is involuted. -/
def sgR (a : Nat) : Int := if revT (pc a) then -1 else 1
def sgI (a : Nat) : Int := if oddT (pc a) then -1 else 1
theorem sgR_sg (a : Nat) : sgR a = sg (rvn (pc a)) := by
 unfold sgR sg revT rvn
 simp only [beq_iff_eq]
theorem sgI_sg (a : Nat) : sgI a = sg (pc a) := by
 unfold sgI sg oddT
 simp only [beq_iff_eq]
theorem sgI_xor (a b : Nat) : sgI (a ^^^ b) = sgI a * sgI b := by
 rw [sgI_sg, sgI_sg, sgI_sg, ← sg_add]
 exact sg_congr (pc_xor a b)
theorem facZ_rev {sq : List Int} (hn : sq.length ≤ 6) {a b : Nat} (ha : a < pw sq.length) (hb : b < pw sq.length) : sgR (a ^^^ b) * facZ sq a b = sgR b * sgR a * facZ sq b a := by
 have h64 : ∀ {x}, x < pw sq.length → x < 64 := fun h => Nat.lt_of_lt_of_le h (pw_le (k := 6) hn)
 unfold facZ
 rw [comZ_symm sq b a, ← Int.mul_assoc, ← Int.mul_assoc]
 congr 1
 rw [sgR_sg, sgR_sg, sgR_sg, ← sg_add, ← sg_add, ← sg_add]
 apply sg_congr
 rw [swaps_six hn ha hb, swaps_six hn hb ha, pc_pcn 6 a (h64 ha), pc_pcn 6 b (h64 hb), pc_pcn 6 _ (h64 (xor_lt ha hb))]
 have := rev_all a (h64 ha) b (h64 hb)
 omega
section
variable {p : Int} {sq : List Int}
def Cl.rev (x : Cl p sq) : Cl p sq := Cl.of x.pos fun m => sgR m * x.co m
def Cl.invo (x : Cl p sq) : Cl p sq := Cl.of x.pos fun m => sgI m * x.co m
theorem Cl.rev_co (x : Cl p sq) {m : Nat} (hm : m < pw sq.length) : x.rev.co m % p = (sgR m * x.co m) % p := Cl.of_cg _ _ hm
theorem Cl.invo_co (x : Cl p sq) {m : Nat} (hm : m < pw sq.length) : x.invo.co m % p = (sgI m * x.co m) % p := Cl.of_cg _ _ hm
theorem Cl.rev_mul (hn : sq.length ≤ 6) (x y : Cl p sq) : (x * y).rev = y.rev * x.rev := Cl.same fun m hm => by
 rw [Cl.rev_co _ hm, Int.mul_emod, Cl.mul_co _ _ hm, ← Int.mul_emod, Cl.mul_co _ _ hm, mulZ_cg p sq (fun a ha => Cl.rev_co y ha) (fun a ha => Cl.rev_co x ha) hm]
 unfold mulZ
 rw [sumTo_xor (fun a => sgR a * y.co a * (sgR (a ^^^ m) * x.co (a ^^^ m)) * facZ sq a (a ^^^ m)) hm, ← sumTo_mul]
 congr 1
 refine sumTo_congr fun a ha => ?_
 have h := facZ_rev hn ha (xor_lt ha hm)
 rw [xor_self_left] at h
 rw [xor_self_right]
 calc sgR m * (x.co a * y.co (a ^^^ m) * facZ sq a (a ^^^ m)) = x.co a * y.co (a ^^^ m) * (sgR m * facZ sq a (a ^^^ m)) := by rw [Int.mul_left_comm]
   _ = x.co a * y.co (a ^^^ m) * (sgR (a ^^^ m) * sgR a * facZ sq (a ^^^ m) a) := by rw [h]
   _ = _ := by
     rw [← Int.mul_assoc]
     congr 1
     generalize x.co a = X
     generalize y.co (a ^^^ m) = Y
     generalize sgR a = S
     generalize sgR (a ^^^ m) = T
     rw [Int.mul_comm X Y, Int.mul_comm T Y, Int.mul_assoc, Int.mul_assoc, Int.mul_left_comm X, Int.mul_comm X S]
theorem Cl.invo_mul (x y : Cl p sq) : (x * y).invo = x.invo * y.invo := Cl.same fun m hm => by
 rw [Cl.invo_co _ hm, Int.mul_emod, Cl.mul_co _ _ hm, ← Int.mul_emod, Cl.mul_co _ _ hm, mulZ_cg p sq (fun a ha => Cl.invo_co x ha) (fun a ha => Cl.invo_co y ha) hm]
 unfold mulZ
 rw [← sumTo_mul]
 congr 1
 refine sumTo_congr fun a _ => ?_
 have h := sgI_xor a (a ^^^ m)
 rw [xor_self_left] at h
 rw [h]
 show _ = sgI a * x.co a * (sgI (a ^^^ m) * y.co (a ^^^ m)) * _
 generalize x.co a = X
 generalize y.co (a ^^^ m) = Y
 generalize sgI a = S
 generalize sgI (a ^^^ m) = T
 rw [← Int.mul_assoc]
 congr 1
 rw [Int.mul_assoc, Int.mul_assoc, Int.mul_left_comm T]
theorem Cl.one_rev (hp : 0 < p) : (Cl.one hp : Cl p sq).rev = Cl.one hp := Cl.same fun m hm => by
 rw [Cl.rev_co _ hm, Int.mul_emod, Cl.one_co hp hm, ← Int.mul_emod]
 by_cases h : m = 0
 · rw [if_pos h, h]; unfold sgR; rw [pc_zero]; rfl
 · rw [if_neg h, Int.mul_zero]
theorem Cl.one_invo (hp : 0 < p) : (Cl.one hp : Cl p sq).invo = Cl.one hp := Cl.same fun m hm => by
 rw [Cl.invo_co _ hm, Int.mul_emod, Cl.one_co hp hm, ← Int.mul_emod]
 by_cases h : m = 0
 · rw [if_pos h, h]; unfold sgI; rw [pc_zero]; rfl
 · rw [if_neg h, Int.mul_zero]
theorem Cl.sgn_l (x : Cl p sq) (t : Nat → Bool) : (Cl.of x.pos fun m => (if t (pc m) then -1 else 1) * x.co m : Cl p sq).l = sgnL p t x.l := by
 refine list_ext_getD 0 (by rw [Cl.len, sgnL_len, x.len]) fun m hm => ?_
 rw [Cl.len] at hm
 rw [sgnL_getD (by rw [x.len]; exact hm)]
 show (Cl.of _ _ : Cl p sq).co m = _
 rw [Cl.of_co _ _ hm]
 split
 · rw [Int.neg_mul, Int.one_mul]; rfl
 · rw [Int.one_mul, x.co_mod]; rfl
theorem Cl.rev_l (x : Cl p sq) : x.rev.l = revL p x.l := x.sgn_l revT
theorem Cl.invo_l (x : Cl p sq) : x.invo.l = invoL p x.l := x.sgn_l oddT
def Cl.vec (hp : 0 < p) (v : List Int) : Cl p sq := Cl.of hp fun b => sumTo sq.length fun i => if b = 2 ^ i then v.getD i 0 else 0
theorem Cl.vec_co (hp : 0 < p) (v : List Int) {m : Nat} (hm : m < pw sq.length) : (Cl.vec hp v : Cl p sq).co m % p = (sumTo sq.length fun i => if m = 2 ^ i then v.getD i 0 else 0) % p := Cl.of_cg _ _ hm
theorem Cl.vec_l (hp : 0 < p) {v : List Int} (hv : NumsL p v) : (Cl.vec hp v : Cl p sq).l = vecTo sq.length v sq.length := by
 refine list_ext_getD 0 (by rw [Cl.len, vecTo_len]) fun m hm => ?_
 rw [Cl.len] at hm
 rw [vecTo_getD _ hm _ (Nat.le_refl _)]
 show (Cl.vec _ _ : Cl p sq).co m = _
 rw [← Cl.co_mod, Cl.vec_co hp v hm, ← vecTo_getD v hm _ (Nat.le_refl _)]
 have := (vecTo_nums hp sq.length v hv sq.length).getD hp m
 exact Int.emod_eq_of_lt this.1 this.2
theorem pow_inj {i j : Nat} (h : (2 : Nat) ^ i = 2 ^ j) : i = j := (Nat.pow_right_inj (by decide)).1 h
theorem bit_pow (i j : Nat) : bit (2 ^ i) j = if i = j then 1 else 0 := by
 rw [bit_eq, Nat.testBit_two_pow]
 by_cases h : i = j <;> simp [h]
theorem pc_pow (i : Nat) : pc (2 ^ i) = 1 := by
 rw [pc_pcn (i + 1) _ (Nat.pow_lt_pow_right (by decide) (by omega)), pcn, bit_pow, if_pos rfl]
 have : ∀ k, k ≤ i → pcn (2 ^ i) k = 0 := by
  intro k
  induction k with
  | zero => intro _; rfl
  | succ k ih => intro hk; rw [pcn, ih (by omega), bit_pow, if_neg (by omega)]
 rw [this i (Nat.le_refl _)]
theorem swaps_pow (a j : Nat) : ∀ k, swaps a (2 ^ j) k = if j < k then pc (a / 2 ^ (j + 1)) else 0 := by
 intro k
 induction k with
 | zero => rfl
 | succ k ih =>
  simp only [swaps]
  rw [ih, bit_pow]
  by_cases h1 : j = k
  · subst h1; simp
  · by_cases h2 : j < k
    · simp [h1, h2, show j < k + 1 by omega]
    · simp [h1, h2, show ¬ j < k + 1 by omega]
theorem comZ_pow (sq : List Int) (i j : Nat) : ∀ k, comZ sq (2 ^ i) (2 ^ j) k = if i = j ∧ i < k then sq.getD i 0 else 1 := by
 intro k
 induction k with
 | zero => simp [comZ]
 | succ k ih =>
  simp only [comZ]
  rw [ih, bit_pow, bit_pow]
  by_cases h : i = j
  · subst h
    by_cases h1 : i = k
    · subst h1; simp
    · by_cases h2 : i < k
      · simp [h1, h2, show i < k + 1 by omega]
      · simp [h1, h2, show ¬ i < k + 1 by omega]
  · simp only [h, false_and, if_false]
    rw [if_neg, Int.mul_one]
    rintro ⟨h1, h2⟩
    split at h1
    · split at h2
      · omega
      · cases h2
    · cases h1
theorem facZ_same (sq : List Int) {i : Nat} (hi : i < sq.length) : facZ sq (2 ^ i) (2 ^ i) = sq.getD i 0 := by
 unfold facZ
 rw [swaps_pow, if_pos hi, comZ_pow, if_pos ⟨rfl, hi⟩, Nat.div_eq_of_lt (Nat.pow_lt_pow_right (by decide) (by omega)), pc_zero]
 show 1 * _ = _
 rw [Int.one_mul]
theorem facZ_less (sq : List Int) {i j : Nat} (h : i < j) (hj : j < sq.length) : facZ sq (2 ^ i) (2 ^ j) = 1 ∧ facZ sq (2 ^ j) (2 ^ i) = -1 := by
 unfold facZ
 rw [swaps_pow, if_pos hj, comZ_pow, if_neg (by omega), swaps_pow, if_pos (by omega), comZ_pow, if_neg (by omega), Nat.div_eq_of_lt (Nat.pow_lt_pow_right (by decide) (by omega)), pc_zero]
 refine ⟨rfl, ?_⟩
 rw [Nat.pow_div (by omega) (by decide), pc_pow]
 rfl
theorem facZ_both (sq : List Int) {i j : Nat} (hi : i < sq.length) (hj : j < sq.length) : facZ sq (2 ^ i) (2 ^ j) + facZ sq (2 ^ j) (2 ^ i) = if i = j then 2 * sq.getD i 0 else 0 := by
 rcases Nat.lt_trichotomy i j with h | h | h
 · rw [(facZ_less sq h hj).1, (facZ_less sq h hj).2, if_neg (by omega)]; rfl
 · subst h; rw [facZ_same sq hi, if_pos rfl]; omega
 · rw [(facZ_less sq h hi).1, (facZ_less sq h hi).2, if_neg (by omega)]; rfl
/-- The product of two vectors, over the integers. -/
def bil (sq v u : List Int) : Int := sumTo sq.length fun i => v.getD i 0 * u.getD i 0 * sq.getD i 0
theorem bil_symm (sq v u : List Int) : bil sq v u = bil sq u v := sumTo_congr fun i _ => by rw [Int.mul_comm (v.getD i 0)]
/-- The product of vectors, at a place. -/
theorem mulZ_vec (sq u v : List Int) {m : Nat} (hm : m < pw sq.length) :
    mulZ sq (fun b => sumTo sq.length fun i => if b = 2 ^ i then u.getD i 0 else 0) (fun b => sumTo sq.length fun i => if b = 2 ^ i then v.getD i 0 else 0) m
     = sumTo sq.length fun i => sumTo sq.length fun j => if 2 ^ i ^^^ 2 ^ j = m then u.getD i 0 * v.getD j 0 * facZ sq (2 ^ i) (2 ^ j) else 0 := by
 unfold mulZ
 rw [sumTo_congr (g := fun a => sumTo sq.length fun i => if a = 2 ^ i then sumTo sq.length fun j => if 2 ^ i ^^^ 2 ^ j = m then u.getD i 0 * v.getD j 0 * facZ sq (2 ^ i) (2 ^ j) else 0 else 0) fun a ha => ?_, sumTo_comm]
 · refine sumTo_congr fun i hi => ?_
   rw [sumTo_one (2 ^ i) (two_lt hi) fun a _ hne => if_neg hne, if_pos rfl]
 · rw [← sumTo_mul_right, ← sumTo_mul_right]
   refine sumTo_congr fun i _ => ?_
   by_cases h : a = 2 ^ i
   · rw [if_pos h, if_pos h, ← sumTo_mul, ← sumTo_mul_right]
     refine sumTo_congr fun j _ => ?_
     by_cases h2 : 2 ^ i ^^^ 2 ^ j = m
     · rw [if_pos h2, h, if_pos ((xor_eq_iff _ _ _).1 h2).symm, ← (xor_eq_iff _ _ _).1 h2]
     · rw [if_neg h2, h, if_neg (fun e => h2 ((xor_eq_iff _ _ _).2 e.symm)), Int.mul_zero, Int.zero_mul]
   · rw [if_neg h, if_neg h, Int.zero_mul, Int.zero_mul]
/-- Vectors: the sum of both products is twice the number of the product. -/
theorem Cl.vec_anti (hp : 0 < p) (u v : List Int) : (Cl.vec hp u : Cl p sq) * Cl.vec hp v + Cl.vec hp v * Cl.vec hp u = (2 * bil sq u v) * Cl.one hp := Cl.same fun m hm => by
 rw [Cl.add_co _ _ hm, Int.add_emod, Cl.mul_co _ _ hm, Cl.mul_co _ _ hm, mulZ_cg p sq (fun a ha => Cl.vec_co hp u ha) (fun a ha => Cl.vec_co hp v ha) hm,
  mulZ_cg p sq (fun a ha => Cl.vec_co hp v ha) (fun a ha => Cl.vec_co hp u ha) hm, ← Int.add_emod, mulZ_vec sq u v hm, mulZ_vec sq v u hm, Cl.sm_co _ _ hm, Int.mul_emod (2 * _), Cl.one_co hp hm, ← Int.mul_emod]
 congr 1
 rw [sumTo_comm sq.length sq.length (fun i j => if 2 ^ i ^^^ 2 ^ j = m then v.getD i 0 * u.getD j 0 * facZ sq (2 ^ i) (2 ^ j) else 0), ← sumTo_add]
 unfold bil
 rw [← sumTo_mul, ← sumTo_mul_right]
 refine sumTo_congr fun i hi => ?_
 rw [← sumTo_add]
 have key : ∀ j, j < sq.length → ((if 2 ^ i ^^^ 2 ^ j = m then u.getD i 0 * v.getD j 0 * facZ sq (2 ^ i) (2 ^ j) else 0) + if 2 ^ j ^^^ 2 ^ i = m then v.getD j 0 * u.getD i 0 * facZ sq (2 ^ j) (2 ^ i) else 0) = if 2 ^ i ^^^ 2 ^ j = m then u.getD i 0 * v.getD j 0 * (if i = j then 2 * sq.getD i 0 else 0) else 0 := fun j hj => by
  rw [Nat.xor_comm (2 ^ j)]
  by_cases h : 2 ^ i ^^^ 2 ^ j = m
  · rw [if_pos h, if_pos h, if_pos h, Int.mul_comm (v.getD j 0), ← Int.mul_add, facZ_both sq hi hj]
  · rw [if_neg h, if_neg h, if_neg h]; rfl
 rw [sumTo_congr key, sumTo_one i hi fun j _ hne => by
  split
  · rw [if_neg (fun e => hne e.symm), Int.mul_zero]
  · rfl]
 rw [if_pos rfl, Nat.xor_self]
 by_cases h : m = 0
 · rw [if_pos h, if_pos h.symm, Int.mul_one, Int.mul_left_comm]
 · rw [if_neg h, if_neg (fun e => h e.symm), Int.mul_zero]
end
/-- m after k columns with d rows done; c: the places of the firsts. -/
structure Ech (m : List (List Int)) (k d : Nat) (c : Nat → Nat) : Prop where
 lt : ∀ i, i < d → c i < k
 mono : ∀ i j, i < j → j < d → c i < c j
 one : ∀ i, i < d → ent m i (c i) = 1
 zero : ∀ i, i < d → ∀ r, r < m.length → r ≠ i → ent m r (c i) = 0
 before : ∀ i, i < d → ∀ q, q < c i → ent m i q = 0
 rest : ∀ r, d ≤ r → r < m.length → ∀ q, q < k → ent m r q = 0
theorem ent_set {m : List (List Int)} {d : Nat} {x : List Int} (hd : d < m.length) (r q : Nat) : ent (m.set d x) r q = if r = d then x.getD q 0 else ent m r q := by
 unfold ent
 rw [getD_set]
 by_cases h : r = d
 · rw [if_pos ⟨h.symm, hd⟩, if_pos h]
 · rw [if_neg (fun hh => h hh.1.symm), if_neg h]
theorem ent_swap {m : List (List Int)} {i j : Nat} (hi : i < m.length) (hj : j < m.length) (r q : Nat) : ent (swapL m i j) r q = if r = j then ent m i q else if r = i then ent m j q else ent m r q := by
 unfold swapL
 rw [ent_set (by rw [List.length_set]; exact hj)]
 split
 · rfl
 · rw [ent_set hi]
   split
   · rfl
   · rfl
theorem ent_scaled {p : Int} {m : List (List Int)} {k d v : Nat} (hv : pivOf m k d = v) (hd : d < m.length) (hvl : v < m.length) {n : Nat} (hT : Tab p n m) (r q : Nat) (hq : q < n) :
    ent (scaledAt p m k d) r q = if r = d then ent m v q * invF p (ent m v k) % p else if r = v then ent m d q else ent m r q := by
 unfold scaledAt
 rw [hv, ent_set (by rw [swapL_len]; exact hd)]
 by_cases h : r = d
 · rw [if_pos h, if_pos h, scaleL_getD _ (by rw [(hT.row hvl).1]; exact hq)]; rfl
 · rw [if_neg h, if_neg h, ent_swap hd hvl]
   by_cases h2 : r = v
   · rw [if_pos h2, if_pos h2]
   · rw [if_neg h2, if_neg h2, if_neg h]
theorem ent_cleared {p : Int} {n : Nat} {m : List (List Int)} (hT : Tab p n m) (d k r q : Nat) (hr : r < m.length) (hq : q < n) :
    ent (clearTo p m d k m.length) r q = if r = d then ent m d q else (ent m r q + -(ent m r k) * ent m d q) % p := by
 show ((clearTo p m d k m.length).getD r []).getD q 0 = _
 rw [clearTo_getD hr]
 by_cases h : r = d
 · rw [if_neg (fun hh => hh.2 h), if_pos h, h]; rfl
 · rw [if_pos ⟨hr, h⟩, if_neg h, plusL_getD _ _ (by rw [(hT.row hr).1]; exact hq)]; rfl
theorem Ech.step {p : Int} (hP : isP p = true) {n : Nat} {s : List (List Int) × Nat} {k : Nat} {c : Nat → Nat} (hT : Tab p n s.1) (hd : s.2 ≤ s.1.length) (hk : k < n) (h : Ech s.1 k s.2 c) : ∃ c', Ech (stepB p k s).1 (k + 1) (stepB p k s).2 c' := by
 obtain ⟨m, d⟩ := s
 simp only at hT hd h
 obtain ⟨hb1, hb2⟩ := pivOf_bound m k d hd
 have hp : 2 ≤ p := by have := isP_ge hP; omega
 unfold stepB
 simp only
 by_cases hv : pivOf m k d = m.length
 · rw [if_pos hv]
   refine ⟨c, fun i hi => by have := h.lt i hi; omega, h.mono, h.one, h.zero, h.before, fun r h1 h2 q hq => ?_⟩
   by_cases hqk : q = k
   · subst hqk
     have h2' : r < m.length := h2
     exact piv_before m q (m.length - d) d r h1 (by show r < pivOf m q d; omega)
   · exact h.rest r h1 h2 q (by omega)
 · rw [if_neg hv]
   obtain ⟨v, hvv⟩ : ∃ v, v = pivOf m k d := ⟨_, rfl⟩
   rw [← hvv] at hb1 hb2 hv
   have hvl : v < m.length := by omega
   have hdl : d < m.length := by omega
   have hne : ent m v k ≠ 0 := by rw [hvv]; exact piv_at m k (m.length - d) d (by show pivOf m k d < _; omega)
   have hrange := hT.ent (by omega) v k
   obtain ⟨i1, i2, i3⟩ := inv_spec hP (show 0 < ent m v k by omega) hrange.2
   have hone : ent m v k * invF p (ent m v k) % p = 1 := (i3 _ (by omega) i2).2 rfl
   have hT1 : Tab p n (scaledAt p m k d) := scaledAt_tab (by omega) hT hdl (by omega)
   have hl1 : (scaledAt p m k d).length = m.length := scaledAt_len p m k d
   have e1 := fun r q (hq : q < n) => ent_scaled (p := p) (m := m) (k := k) (d := d) hvv.symm hdl hvl hT r q hq
   have e2 := fun r q (hr : r < m.length) (hq : q < n) => ent_cleared (p := p) hT1 d k r q (by rw [hl1]; exact hr) hq
   rw [hl1] at e2
   have c1 : ∀ i, i < d → c i < n := fun i hi => by have := h.lt i hi; omega
   have z1 : ∀ q, q < k → ent (scaledAt p m k d) d q = 0 := fun q hq => by
    rw [e1 d q (by omega), if_pos rfl, h.rest v hb1 hvl q hq]; simp
   have o1 : ent (scaledAt p m k d) d k = 1 := by rw [e1 d k hk, if_pos rfl, hone]
   refine ⟨fun i => if i = d then k else c i, ?_, ?_, ?_, ?_, ?_, ?_⟩
   · intro i hi
     show (if i = d then k else c i) < k + 1
     split
     · omega
     · have := h.lt i (by omega); omega
   · intro i j hij hj
     show (if i = d then k else c i) < (if j = d then k else c j)
     rw [if_neg (show i ≠ d by omega)]
     split
     · exact h.lt i (by omega)
     · exact h.mono i j hij (by omega)
   · intro i hi
     show ent _ i (if i = d then k else c i) = 1
     by_cases hid : i = d
     · rw [if_pos hid, e2 i k (by omega) hk, if_pos hid, o1]
     · have hi' : i < d := by omega
       rw [if_neg hid, e2 i _ (by omega) (c1 i hi'), if_neg hid, z1 _ (h.lt i hi'), e1 i _ (c1 i hi'), if_neg hid, if_neg (show i ≠ v by omega), h.one i hi', Int.mul_zero]
       exact Int.emod_eq_of_lt (by omega) (by omega)
   · intro i hi r hr hri
     rw [clearTo_len, hl1] at hr
     show ent _ r (if i = d then k else c i) = 0
     by_cases hid : i = d
     · rw [if_pos hid, e2 r k hr hk, if_neg (fun e => hri (e.trans hid.symm)), o1, Int.mul_one]
       rw [Int.add_right_neg]; simp
     · have hi' : i < d := by omega
       rw [if_neg hid, e2 r _ hr (c1 i hi')]
       by_cases hrd : r = d
       · rw [if_pos hrd]; exact z1 _ (h.lt i hi')
       · rw [if_neg hrd, z1 _ (h.lt i hi'), e1 r _ (c1 i hi'), if_neg hrd]
         by_cases hrv : r = v
         · rw [if_pos hrv, h.zero i hi' d hdl (by omega)]; simp
         · rw [if_neg hrv, h.zero i hi' r hr hri]; simp
   · intro i hi q hq
     by_cases hid : i = d
     · have hq' : q < k := by simpa [hid] using hq
       rw [e2 i q (by omega) (by omega), if_pos hid]
       exact z1 q hq'
     · have hq' : q < c i := by simpa [hid] using hq
       have hi' : i < d := by omega
       have := h.lt i hi'
       rw [e2 i q (by omega) (by omega), if_neg hid, z1 q (by omega), e1 i q (by omega), if_neg hid, if_neg (show i ≠ v by omega), h.before i hi' q hq']
       simp
   · intro r h1 h2 q hq
     rw [clearTo_len, hl1] at h2
     rw [e2 r q h2 (by omega), if_neg (show r ≠ d by simp only at h1; omega)]
     by_cases hqk : q = k
     · subst hqk
       rw [o1, Int.mul_one, Int.add_right_neg]; simp
     · have hq' : q < k := by omega
       have h1' : d + 1 ≤ r := h1
       rw [z1 q hq', e1 r q (by omega), if_neg (show r ≠ d by omega)]
       by_cases hrv : r = v
       · rw [if_pos hrv, h.rest d (Nat.le_refl _) hdl q hq']; simp
       · rw [if_neg hrv, h.rest r (by omega) h2 q hq']; simp
theorem Ech.start (m : List (List Int)) (c : Nat → Nat) : Ech m 0 0 c := ⟨fun i hi => absurd hi (by omega), fun i j _ hj => absurd hj (by omega), fun i hi => absurd hi (by omega), fun i hi => absurd hi (by omega), fun i hi => absurd hi (by omega), fun _ _ _ q hq => absurd hq (by omega)⟩
theorem basisTo_ech {p : Int} (hP : isP p = true) {n : Nat} (m : List (List Int)) (hT : Tab p n m) (k : Nat) (hk : k ≤ n) : ∃ c, Ech (basisTo p m k).1 k (basisTo p m k).2 c := by
 have hp : 2 ≤ p := by have := isP_ge hP; omega
 induction k with
 | zero => exact ⟨fun _ => 0, Ech.start _ _⟩
 | succ k ih =>
  obtain ⟨c, hc⟩ := ih (by omega)
  obtain ⟨h1, h2, h3⟩ := basisTo_inv (by omega) m hT k
  exact hc.step hP h1 (by omega) (by omega)
/-- The place of the first number of row i. -/
def ld (B : List (List Int)) (i : Nat) : Nat := leadL (B.getD i [])
/-- A reduced basis of lists of n numbers. -/
structure Red (n : Nat) (B : List (List Int)) : Prop where
 lt : ∀ i, i < B.length → ld B i < n
 one : ∀ i, i < B.length → ent B i (ld B i) = 1
 zero : ∀ i r, i < B.length → r < B.length → r ≠ i → ent B r (ld B i) = 0
 mono : ∀ i j, i < j → j < B.length → ld B i < ld B j
theorem Red.inj {n : Nat} {B : List (List Int)} (h : Red n B) {i j : Nat} (hi : i < B.length) (hj : j < B.length) (e : ld B i = ld B j) : i = j := by
 rcases Nat.lt_trichotomy i j with hl | hl | hl
 · have := h.mono i j hl hj; omega
 · exact hl
 · have := h.mono j i hl hi; omega
theorem Red.nil (n : Nat) : Red n [] := ⟨fun i hi => absurd hi (by simp), fun i hi => absurd hi (by simp), fun i r hi => absurd hi (by simp), fun i j _ hj => absurd hj (by simp)⟩
theorem Red.len {n : Nat} {B : List (List Int)} (h : Red n B) : B.length ≤ n := by
 have hle : ∀ j, j < B.length → j ≤ ld B j := by
  intro j
  induction j with
  | zero => intro _; omega
  | succ j ih =>
   intro hj
   have h1 := ih (by omega)
   have h2 := h.mono j (j + 1) (by omega) hj
   omega
 by_cases h0 : B.length = 0
 · omega
 · have h1 := hle (B.length - 1) (by omega)
   have h2 := h.lt (B.length - 1) (by omega)
   omega
theorem row0_len {p : Int} {n : Nat} {m : List (List Int)} (hT : Tab p n m) (h0 : 0 < m.length) : (m.getD 0 []).length = n := (hT.row h0).1
theorem basisL_nil (p : Int) : basisL p [] = [] := by unfold basisL; simp [basisTo]
theorem basisL_red {p : Int} (hP : isP p = true) {n : Nat} (m : List (List Int)) (hT : Tab p n m) : Red n (basisL p m) := by
 have hp : 2 ≤ p := by have := isP_ge hP; omega
 by_cases h0 : 0 < m.length
 · have hl := row0_len hT h0
   obtain ⟨c, hc⟩ := basisTo_ech hP m hT n (Nat.le_refl _)
   obtain ⟨h1, h2, h3⟩ := basisTo_inv (p := p) (by omega) m hT n
   have hlen := (basisL_len (p := p) (by omega) m hT).1
   rw [hl] at hlen
   have hg : ∀ i, i < (basisL p m).length → (basisL p m).getD i [] = (basisTo p m n).1.getD i [] := fun i hi => by
    have hi2 : i < (basisTo p m n).1.length := by omega
    have e : basisL p m = (basisTo p m n).1.take (basisTo p m n).2 := by unfold basisL; rw [hl]
    rw [getD_of_lt [] hi, getD_of_lt [] hi2]
    simp only [e, List.getElem_take]
   have he : ∀ i q, i < (basisL p m).length → ent (basisL p m) i q = ent (basisTo p m n).1 i q := fun i q hi => by unfold ent; rw [hg i hi]
   have hld : ∀ i, i < (basisL p m).length → ld (basisL p m) i = c i := fun i hi => by
    have hi' : i < (basisTo p m n).2 := by omega
    have hr := (h1.row (show i < (basisTo p m n).1.length by omega)).1
    unfold ld
    rw [hg i hi]
    refine leadL_eq _ _ (fun j hj => hc.before i hi' j hj) (.inr ⟨by rw [hr]; exact hc.lt i hi', ?_⟩)
    have := hc.one i hi'
    unfold ent at this
    rw [this]; omega
   refine ⟨fun i hi => ?_, fun i hi => ?_, fun i r hi hr hri => ?_, fun i j hij hj => ?_⟩
   · rw [hld i hi]; exact hc.lt i (by omega)
   · rw [hld i hi, he i _ hi]; exact hc.one i (by omega)
   · rw [hld i hi, he r _ hr]; exact hc.zero i (by omega) r (by omega) hri
   · rw [hld i (by omega), hld j hj]; exact hc.mono i j hij (by omega)
 · obtain rfl : m = [] := List.eq_nil_of_length_eq_zero (by omega)
   rw [basisL_nil]
   exact Red.nil n
/-- The row that has its first number at place k. -/
def ldIdx (B : List (List Int)) (k : Nat) : Option Nat := (List.range B.length).find? fun i => ld B i == k
def isLd (B : List (List Int)) (k : Nat) : Bool := (List.range B.length).any fun i => ld B i == k
theorem ldIdx_some {n : Nat} {B : List (List Int)} (h : Red n B) {i : Nat} (hi : i < B.length) : ldIdx B (ld B i) = some i := by
 unfold ldIdx
 cases e : (List.range B.length).find? fun j => ld B j == ld B i with
 | none =>
  have := List.find?_eq_none.1 e i (by simpa using hi)
  simp at this
 | some j =>
  have h1 := List.find?_some e
  have h2 := List.mem_of_find?_eq_some e
  have hji : j = i := h.inj (by simpa using h2) hi (by simpa using h1)
  rw [hji]
theorem ldIdx_none {B : List (List Int)} {k : Nat} (h : isLd B k = false) : ldIdx B k = none := by
 unfold ldIdx
 rw [List.find?_eq_none]
 intro i hi
 have := List.any_eq_false.1 h i hi
 exact this
theorem isLd_iff {B : List (List Int)} {k : Nat} : isLd B k = true ↔ ∃ i, i < B.length ∧ ld B i = k := by
 unfold isLd
 rw [List.any_eq_true]
 constructor
 · rintro ⟨i, hi, e⟩; exact ⟨i, by simpa using hi, by simpa using e⟩
 · rintro ⟨i, hi, e⟩; exact ⟨i, by simpa using hi, by simpa using e⟩
/-- The vector of the kernel that is 1 at the free place f: what is not left over is set. -/
def freePart (p : Int) (B : List (List Int)) (n f : Nat) (left : Nat → Bool) : List Int :=
 tab n fun k => if k = f then 1 else if left k then 0 else match ldIdx B k with | some i => (-(ent B i f)) % p | none => 0
def freeRow (p : Int) (B : List (List Int)) (n f : Nat) : List Int := freePart p B n f fun _ => false
theorem freePart_len (p : Int) (B : List (List Int)) (n f : Nat) (left : Nat → Bool) : (freePart p B n f left).length = n := tab_len _ _
theorem freePart_nums {p : Int} (hp : 2 ≤ p) (B : List (List Int)) (n f : Nat) (left : Nat → Bool) : NumsL p (freePart p B n f left) := NumsL.tab fun i _ => by
 split
 · omega
 · split
   · omega
   · split
     · exact ⟨Int.emod_nonneg _ (by omega), Int.emod_lt_of_pos _ (by omega)⟩
     · omega
theorem freePart_start (p : Int) (B : List (List Int)) (n f : Nat) (_hf : f < n) (left : Nat → Bool) (h : ∀ k, k < n → isLd B k = true → left k = true) : freePart p B n f left = unitRow n f := by
 apply list_ext_getD 0 (by rw [freePart_len, unitRow_len])
 intro k hk
 rw [freePart_len] at hk
 unfold freePart unitRow
 rw [tab_getD hk, getD_set, List.length_replicate]
 by_cases hkf : k = f
 · subst hkf
   rw [if_pos rfl, if_pos ⟨rfl, hk⟩]
 · have hkf' : ¬ (f = k ∧ f < n) := fun hh => hkf hh.1.symm
   rw [if_neg hkf, if_neg hkf']
   have hz : (List.replicate n (0 : Int)).getD k 0 = 0 := by rw [getD_of_lt 0 (by simpa using hk)]; simp
   rw [hz]
   cases hl : left k with
   | true => rfl
   | false =>
    have hn : isLd B k = false := by
     cases hh : isLd B k with
     | false => rfl
     | true => rw [h k hk hh] at hl; cases hl
    rw [ldIdx_none hn]; rfl
theorem freePart_step {p : Int} {n : Nat} {B : List (List Int)} (h : Red n B) {f i : Nat} (hi : i < B.length) (hf : isLd B f = false) (left : Nat → Bool) :
    (freePart p B n f left).set (ld B i) ((-(ent B i f)) % p) = freePart p B n f fun k => left k && !(k == ld B i) := by
 apply list_ext_getD 0 (by rw [List.length_set, freePart_len, freePart_len])
 intro k hk
 rw [List.length_set, freePart_len] at hk
 rw [getD_set, freePart_len]
 unfold freePart
 rw [tab_getD hk, tab_getD hk]
 by_cases hki : ld B i = k
 · subst hki
   have hne : ld B i ≠ f := fun e => by
    have := isLd_iff.2 ⟨i, hi, e⟩
    rw [hf] at this; cases this
   rw [if_pos ⟨rfl, hk⟩, if_neg hne]
   simp [ldIdx_some h hi]
 · rw [if_neg (fun hh => hki hh.1)]
   by_cases hkf : k = f
   · rw [if_pos hkf, if_pos hkf]
   · rw [if_neg hkf, if_neg hkf]
     have : (k == ld B i) = false := by simp; exact fun e => hki e.symm
     simp only [this, Bool.not_false, Bool.and_true]
theorem freePart_congr (p : Int) (B : List (List Int)) (n f : Nat) {left left' : Nat → Bool} (h : ∀ k, k < n → left k = left' k) : freePart p B n f left = freePart p B n f left' := by
 refine tab_congr fun k hk => ?_
 rw [h k hk]
/-- The vectors of the kernel for the first k places. -/
def freeTo (p : Int) (B : List (List Int)) (n k : Nat) : List (List Int) := ((List.range k).filter fun f => !isLd B f).map (freeRow p B n)
theorem freeTo_skip {p : Int} {B : List (List Int)} {n k : Nat} (h : isLd B k = true) : freeTo p B n (k + 1) = freeTo p B n k := by
 unfold freeTo; rw [List.range_succ, List.filter_append]; simp [h]
theorem freeTo_take {p : Int} {B : List (List Int)} {n k : Nat} (h : isLd B k = false) : freeTo p B n (k + 1) = freeTo p B n k ++ [freeRow p B n k] := by
 unfold freeTo; rw [List.range_succ, List.filter_append]; simp [h]
theorem freeTo_tab {p : Int} (hp : 2 ≤ p) (B : List (List Int)) (n k : Nat) : Tab p n (freeTo p B n k) := fun y hy => by
 obtain ⟨f, _, rfl⟩ := List.mem_map.1 hy
 exact ⟨freePart_len _ _ _ _ _, freePart_nums hp _ _ _ _⟩
/-- The reduced basis of the kernel of rows of n numbers. -/
def kernL (p : Int) (m : List (List Int)) (n : Nat) : List (List Int) := basisL p (freeTo p (basisL p m) n n)
theorem kernL_tab {p : Int} (hp : 2 ≤ p) (m : List (List Int)) (n : Nat) : Tab p n (kernL p m n) := basisL_tab (by omega) _ (freeTo_tab hp _ n n)
theorem kernL_red {p : Int} (hP : isP p = true) (m : List (List Int)) (n : Nat) : Red n (kernL p m n) := basisL_red hP _ (freeTo_tab (by have := isP_ge hP; omega) _ n n)
theorem kernL_len {p : Int} (hP : isP p = true) (m : List (List Int)) (n : Nat) : (kernL p m n).length ≤ n := (kernL_red hP m n).len
end Go.Proofs.YtmkjdpnoloofjaaGreat
namespace Go.Proofs.YtmkjdpnoloofjaaGreat
open Go.RowKit
theorem Nest.setNew {w1 w2 : World} {B : Nat} {rows : List Value} {xss : List (List Int)} {A : Option Addr} {n c : Nat} {xs : List Int} (h : Nest w1 B rows xss) (hr : Mk w1 w2 2 A n c (ints xs)) (hB : B ≤ w1.heap.size) (k : Nat) :
    Nest w2 B (rows.set k (.slice A n c)) (xss.set k xs) := by
 have hn : xs.length = n := by have := hr.2.len; rwa [ints_length] at this
 subst hn
 have hnew : ∀ g, (Value.slice A xs.length c).ownBlock = some g → w1.heap.size ≤ g := fun g hg => (World.ownsRow.lt hr.2 g hg).1
 refine ⟨by simp [h.len], fun j hj => ?_, fun i j g hij hi => ?_⟩
 · have hj' : j < xss.length := by simpa using hj
   by_cases hk : k = j
   · subst hk
     rw [List.getElem_set_self]
     exact ⟨A, c, by rw [List.getElem?_set_self (by rw [h.len]; exact hj')], hr.2.base hB⟩
   · obtain ⟨A', c', e, ho⟩ := h.row j hj'
     rw [List.getElem_set_ne hk]
     exact ⟨A', c', by rw [List.getElem?_set_ne hk]; exact e, ho.below hr.1⟩
 · rw [List.getElem?_set] at hi ⊢
   by_cases hki : k = i
   · subst hki
     rw [if_pos rfl] at hi
     rw [if_neg (by omega)]
     split at hi
     · intro hj
       have h1 := (h.block j g hj).2
       have h2 := hnew g (by simpa using hi)
       omega
     · simp at hi
   · rw [if_neg hki] at hi
     have hgi := (h.block i g hi).2
     by_cases hkj : k = j
     · rw [if_pos hkj]
       split
       · intro hj
         have h2 := hnew g (by simpa using hj)
         omega
       · simp
     · rw [if_neg hkj]
       exact h.apart i j g hij hi
theorem Nest.apart_ne {w : World} {B : Nat} {rows : List Value} {xss : List (List Int)} (h : Nest w B rows xss) (i j g : Nat) (hij : i ≠ j) (hi : (rows[i]?).bind Value.ownBlock = some g) : (rows[j]?).bind Value.ownBlock ≠ some g := by
 rcases Nat.lt_or_gt_of_ne hij with hlt | hgt
 · exact h.apart i j g hlt hi
 · intro hj
   exact h.apart j i g hgt hj hi
/-- The rows in another order. -/
theorem Nest.moved {w : World} {B : Nat} {rows rows' : List Value} {xss xss' : List (List Int)} (h : Nest w B rows xss) (s : Nat → Nat) (hs : ∀ i j, i ≠ j → s i ≠ s j) (hl : rows'.length = xss'.length) (hr : ∀ k, rows'[k]? = rows[s k]?) (hx : ∀ k, xss'[k]? = xss[s k]?) : Nest w B rows' xss' := by
 refine ⟨hl, fun k hk => ?_, fun i j g hij hi => ?_⟩
 · have e := hx k
   rw [List.getElem?_eq_getElem hk] at e
   obtain ⟨hk', e'⟩ := List.getElem?_eq_some_iff.1 e.symm
   obtain ⟨A, c, er, ho⟩ := h.row (s k) hk'
   rw [e'] at er ho
   exact ⟨A, c, by rw [hr k, er], ho⟩
 · rw [hr] at hi ⊢
   exact h.apart_ne _ _ _ (hs i j (by omega)) hi
theorem swapL_get? (m : List (List Int)) {i j : Nat} (hi : i < m.length) (hj : j < m.length) (k : Nat) : (swapL m i j)[k]? = m[if k = j then i else if k = i then j else k]? := by
 unfold swapL
 rw [List.getElem?_set, List.getElem?_set]
 by_cases h1 : j = k
 · subst h1
   rw [if_pos rfl, if_pos rfl, List.length_set, if_pos hj, getD_of_lt [] hi, List.getElem?_eq_getElem hi]
 · have h1' : ¬ k = j := fun e => h1 e.symm
   rw [if_neg h1, if_neg h1']
   by_cases h2 : i = k
   · subst h2
     rw [if_pos rfl, if_pos rfl, if_pos hi, getD_of_lt [] hj, List.getElem?_eq_getElem hj]
   · have h2' : ¬ k = i := fun e => h2 e.symm
     rw [if_neg h2, if_neg h2']
theorem swapV_get? (m : List Value) {i j : Nat} {ri rj : Value} (hi : m[i]? = some ri) (hj : m[j]? = some rj) (k : Nat) : ((m.set i rj).set j ri)[k]? = m[if k = j then i else if k = i then j else k]? := by
 have hil := (List.getElem?_eq_some_iff.1 hi).1
 have hjl := (List.getElem?_eq_some_iff.1 hj).1
 rw [List.getElem?_set, List.getElem?_set]
 by_cases h1 : j = k
 · subst h1
   rw [if_pos rfl, if_pos rfl, List.length_set, if_pos hjl, hi]
 · have h1' : ¬ k = j := fun e => h1 e.symm
   rw [if_neg h1, if_neg h1']
   by_cases h2 : i = k
   · subst h2
     rw [if_pos rfl, if_pos rfl, if_pos hil, hj]
   · have h2' : ¬ k = i := fun e => h2 e.symm
     rw [if_neg h2, if_neg h2']
theorem Nest.swap {w : World} {B : Nat} {rows : List Value} {xss : List (List Int)} (h : Nest w B rows xss) {i j : Nat} {ri rj : Value} (hi : rows[i]? = some ri) (hj : rows[j]? = some rj) : Nest w B ((rows.set i rj).set j ri) (swapL xss i j) := by
 have hil := (List.getElem?_eq_some_iff.1 hi).1
 have hjl := (List.getElem?_eq_some_iff.1 hj).1
 rw [h.len] at hil hjl
 refine h.moved (fun k => if k = j then i else if k = i then j else k) (fun a b hab => ?_) (by simp [swapL, h.len]) (swapV_get? rows hi hj) (swapL_get? xss hil hjl)
 show (if a = j then i else if a = i then j else a) ≠ (if b = j then i else if b = i then j else b)
 split <;> split <;> (try split) <;> (try split) <;> omega
section
variable {w0 w w1 w2 : World} {g n c : Nat} {xss : List (List Int)}
/-- Rows exchanged. -/
theorem MkII.swap (h : MkII w0 w (some ⟨g, 0, none⟩) n c xss) {i j : Nat} (hi : i < n) (hj : j < n) {ri rj : Value} (ci : w.cell? ⟨g, i, none⟩ = some ri) (cj : w.cell? ⟨g, j, none⟩ = some rj) :
    MkII w0 ((w.setCell ⟨g, i, none⟩ rj).setCell ⟨g, j, none⟩ ri) (some ⟨g, 0, none⟩) n c (swapL xss i j) := by
 obtain ⟨rows, hm, hn⟩ := h
 have ei : rows[i]? = some ri := by
  obtain ⟨u, hu, hc⟩ := hm.2.cell_ hi
  rw [hu, ← ci, hc]
 have ej : rows[j]? = some rj := by
  obtain ⟨u, hu, hc⟩ := hm.2.cell_ hj
  rw [hu, ← cj, hc]
 obtain ⟨m1, g1⟩ := hm.set i rj
 obtain ⟨m2, g2⟩ := m1.set j ri
 exact ⟨_, m2, ((hn.grown hm.2 (by decide) g1).grown m1.2 (by decide) g2).swap ei ej⟩
/-- A row replaced by a new one. -/
theorem MkII.setRow (h : MkII w0 w1 (some ⟨g, 0, none⟩) n c xss) {A1 : Option Addr} {m c1 : Nat} {xs : List Int} (hr : Mk w1 w2 2 A1 m c1 (ints xs)) (k : Nat) :
    MkII w0 (w2.setCell ⟨g, k, none⟩ (.slice A1 m c1)) (some ⟨g, 0, none⟩) n c (xss.set k xs) := by
 obtain ⟨rows, hm, hn⟩ := h
 have hm2 := hm.below hr.1
 obtain ⟨m1, g1⟩ := hm2.set k (.slice A1 m c1)
 exact ⟨_, m1, (hn.setNew hr hm.1.size k).grown hm2.2 (by decide) g1⟩
/-- A row of its own stays when a cell of the outer list is written. -/
theorem MkII.rowKept (h : MkII w0 w (some ⟨g, 0, none⟩) n c xss) {B : Nat} {A' : Option Addr} {m c' : Nat} {us : List Value} (ho : Own w B 2 A' m c' us) (k : Nat) (u : Value) : Own (w.setCell ⟨g, k, none⟩ u) B 2 A' m c' us := by
 obtain ⟨rows, hm, hn⟩ := h
 obtain ⟨m1, g1⟩ := hm.set k u
 exact ho.grown g1 (ho.ne hm.2 (by decide))
/-- One row's place is given to another row, which is then replaced by a new one. -/
theorem MkII.swapSet (h : MkII w0 w (some ⟨g, 0, none⟩) n c xss) {f d : Nat} (hf : f < n) (hd : d < n) {rf rd : Value} (cf : w.cell? ⟨g, f, none⟩ = some rf) (cd : w.cell? ⟨g, d, none⟩ = some rd)
    {A1 : Option Addr} {m c1 : Nat} {xs : List Int} (hr : Mk (w.setCell ⟨g, f, none⟩ rd) w2 2 A1 m c1 (ints xs)) :
    MkII w0 (w2.setCell ⟨g, d, none⟩ (.slice A1 m c1)) (some ⟨g, 0, none⟩) n c ((swapL xss d f).set d xs) := by
 obtain ⟨rows, hm, hn⟩ := h
 have ef : rows[f]? = some rf := by
  obtain ⟨u, hu, hc⟩ := hm.2.cell_ hf
  rw [hu, ← cf, hc]
 have ed : rows[d]? = some rd := by
  obtain ⟨u, hu, hc⟩ := hm.2.cell_ hd
  rw [hu, ← cd, hc]
 obtain ⟨m1, g1⟩ := hm.set f rd
 have hm2 := m1.below hr.1
 obtain ⟨m3, g3⟩ := hm2.set d (.slice A1 m c1)
 have hsz : w0.heap.size ≤ (w.setCell ⟨g, f, none⟩ rd).heap.size := m1.1.size
 have hns := ((hn.grown hm.2 (by decide) g1).swap ed ef).setNew hr hsz d
 have e1 : (((rows.set d rf).set f rd).set d (.slice A1 m c1)) = ((rows.set f rd).set d (.slice A1 m c1)) := by
  apply List.ext_getElem?
  intro k
  simp only [List.getElem?_set, List.length_set]
  by_cases h1 : d = k
  · simp [h1]
  · simp only [h1, if_false]
 rw [e1] at hns
 exact ⟨_, m3, hns.grown hm2.2 (by decide) g3⟩
theorem MkII.frozen_ (h : MkII w0 w (some ⟨g, 0, none⟩) n c xss) (k : Nat) : w.frozen? ⟨g, k, none⟩ = false := by
 obtain ⟨rows, hm, _⟩ := h
 exact hm.2.frozen_ k
theorem MkII.cellSet (h : MkII w0 w (some ⟨g, 0, none⟩) n c xss) (k : Nat) {A1 : Option Addr} {m c1 : Nat} {j : Nat} (hj : j < n) : ∃ v, (w.setCell ⟨g, k, none⟩ (.slice A1 m c1)).cell? ⟨g, j, none⟩ = some v := by
 obtain ⟨rows, hm, _⟩ := h
 obtain ⟨m1, _⟩ := hm.set k (.slice A1 m c1)
 obtain ⟨v, _, hv⟩ := m1.2.cell_ hj
 exact ⟨v, hv⟩
theorem MkII.outSet (h : MkII w0 w (some ⟨g, 0, none⟩) n c xss) (k : Nat) (u : Value) : ∃ us, Mk w0 (w.setCell ⟨g, k, none⟩ u) 24 (some ⟨g, 0, none⟩) n c us := by
 obtain ⟨rows, hm, _⟩ := h
 exact ⟨_, (hm.set k u).1⟩
theorem MkII.outer {A : Option Addr} (h : MkII w0 w A n c xss) : ∃ us, Mk w0 w 24 A n c us := by
 obtain ⟨rows, hm, _⟩ := h
 exact ⟨_, hm⟩
/-- The list cut down. -/
theorem MkII.cut {A : Option Addr} {k : Nat} (h : MkII w0 w A n c xss) (hk : k ≤ n) : MkII w0 w A k c (xss.take k) := by
 obtain ⟨rows, hm, hn⟩ := h
 refine ⟨rows.take k, ⟨hm.1, hm.2.cut hk⟩, by rw [List.length_take, List.length_take, hn.len], fun j hj => ?_, fun i j b hij hi => ?_⟩
 · have hj2 : j < k ∧ j < xss.length := by rw [List.length_take] at hj; omega
   obtain ⟨A', c', e, ho⟩ := hn.row j hj2.2
   rw [List.getElem_take]
   exact ⟨A', c', by rw [List.getElem?_take, if_pos hj2.1]; exact e, ho⟩
 · rw [List.getElem?_take] at hi ⊢
   split at hi
   · split
     · exact hn.apart i j b hij hi
     · simp
   · simp at hi
end
theorem ent_at {M : List (List Int)} {i k : Nat} (hi : i < M.length) (hk : k < M[i].length) : ent M i k = M[i][k] := by
 unfold ent
 rw [getD_of_lt [] hi, getD_of_lt 0 hk]
theorem Own.keep {w w' : World} {B : Nat} {E : TypeId} {A : Option Addr} {n c : Nat} {us : List Value} (h : Own w B E A n c us) (hk : ∀ b, B ≤ b → b < w.heap.size → w'.heap[b]? = w.heap[b]?) : Rd w' A n us := by
 refine ⟨h.len, fun hn => ?_⟩
 rcases h.form with ⟨_, h0⟩ | ⟨g, rfl, hg, hg2⟩
 · omega
 · obtain ⟨g', o, e, hc⟩ := h.rd.2 hn
   refine ⟨g', o, e, fun k u hu => ?_⟩
   injection e with e
   injection e with e1 _ _
   subst e1
   exact (World.cell?_of_block (hk g hg hg2)).trans (hc k u hu)
theorem MkII.keep {w0 w w' : World} {A : Option Addr} {n c : Nat} {xss : List (List Int)} (h : MkII w0 w A n c xss) (hk : ∀ b, w0.heap.size ≤ b → b < w.heap.size → w'.heap[b]? = w.heap[b]?) : RdII w' A n xss := by
 obtain ⟨rows, hm, hn⟩ := h
 exact ⟨rows, hm.2.keep hk, hn.len, fun k hk' => by obtain ⟨A', c', e, ho⟩ := hn.row k hk'; exact ⟨A', c', e, ho.keep hk, ho.cap⟩⟩
/-- A new row is appended: what else is said of memory, too. -/
theorem wpList_appRowG {ops : Array Oper} {rest : List Oper} {o : Oper} {a : Act} {Q : Exit → Act → World → Prop} (w0 wr w1 : World)
    (hgd : o.guard = none) (s x : Operand) (ho : o.op = .call { callee := .builtin .append, args := #[s, x], argTypes := #[27, 27] })
    (A : Option Addr) (n c : Nat) (xss : List (List Int)) (A1 : Option Addr) (m c1 : Nat) (xs : List Int) (hM : MkII w0 wr A n c xss) (hr : Mk wr w1 2 A1 m c1 (ints xs)) (hn : n ≤ 1099511627776)
    (hs : a.eval s = .slice A n c) (hx : a.eval x = .slice (some ⟨w1.heap.size, 0, none⟩) 1 1)
    (h : ∀ A' c' w', MkII w0 w' A' (n + 1) c' (xss ++ [xs]) → w1.grownBy w' (Value.slice A n c).ownBlock → (∃ g, A' = some ⟨g, 0, none⟩ ∧ ((Value.slice A n c).ownBlock = some g ∨ w1.heap.size ≤ g)) → wpList Tryz.prog ops Q rest (a.put o.dst (.slice A' (n + 1) c')) w') :
    wpList Tryz.prog ops Q (o :: rest) a (w1.alloc (.cells #[.slice A1 m c1] 24)) := by
 obtain ⟨rows, hm, hnest⟩ := hM
 have hm1 := hm.below hr.1
 have hn1 := hnest.snoc hr hm.1.size
 refine wpList_app1 w0 w1 27 24 (.slice none 0 0) 24 Tryz.underlying27 info_s rfl (by omega) hgd s x ho A n c rows (.slice A1 m c1) hm1 hn rfl hs hx ?_
 intro A' c' w' hM' hg hat
 exact h A' c' w' ⟨_, hM', hn1.grown hm1.2 (by decide) hg⟩ hg hat
/-- What is kept of the blocks between two sizes, and where a list lies that grows. -/
def Keeps (w2 w3 wr : World) (v : Value) : Prop := w3.heap.size ≤ wr.heap.size ∧ (∀ b, w2.heap.size ≤ b → b < w3.heap.size → wr.heap[b]? = w3.heap[b]?) ∧ ∀ gb, v.ownBlock = some gb → gb < w2.heap.size ∨ w3.heap.size ≤ gb
theorem lt_of_own {g gb k n c : Nat} (e : (Value.slice (some ⟨g, 0, none⟩) n c).ownBlock = some gb) (h : g < k) : gb < k := by
 have : g = gb := by simpa [Value.ownBlock] using e
 omega
theorem Keeps.step {w2 w3 wr w5 w6 : World} {A A' : Option Addr} {n c c' n' : Nat} (h : Keeps w2 w3 wr (.slice A n c)) (hb : Below wr.heap.size wr w5) (hg : w5.grownBy w6 (Value.slice A n c).ownBlock)
    (hat : ∃ g, A' = some ⟨g, 0, none⟩ ∧ ((Value.slice A n c).ownBlock = some g ∨ w5.heap.size ≤ g)) : Keeps w2 w3 w6 (.slice A' n' c') := by
 obtain ⟨h1, h2, h3⟩ := h
 have s1 := hb.size
 have s2 := hg.size
 refine ⟨by omega, fun b hb1 hb2 => ?_, fun gb hgb => ?_⟩
 · rw [hg.block b (by omega) (fun e => ?_), hb.block b (by omega), h2 b hb1 hb2]
   rcases h3 b e.symm with h | h <;> omega
 · obtain ⟨g, rfl, hor⟩ := hat
   have : g = gb := by simpa [Value.ownBlock] using hgb
   subst this
   rcases hor with he | he
   · exact h3 g he
   · right; omega
theorem MkII.ne_blk {w0 w : World} {A : Option Addr} {n c g : Nat} {xss : List (List Int)} {t : TypeId} {cs : Array Value} (h : MkII w0 w A n c xss) (hb : Blk w g t cs) (hE : 24 ≠ t) : some g ≠ (Value.slice A n c).ownBlock := by
 obtain ⟨rows, hm, _⟩ := h
 exact hm.2.ne_blk hb hE
theorem RdII.row0 {w : World} {g o n : Nat} {M : List (List Int)} {p : Int} {m : Nat} (h : RdII w (some ⟨g, o, none⟩) n M) (h0 : 0 < n) (hT : Tab p m M) : ∃ A0 c0, w.cell? ⟨g, o, none⟩ = some (.slice A0 m c0) := by
 obtain ⟨g', o', e', hx0, A0, c0, hc, _, _⟩ := h.at_ h0
 injection e' with e'
 injection e' with e1 e2 _
 subst e1; subst e2
 refine ⟨A0, c0, ?_⟩
 rw [Nat.add_zero] at hc
 rw [hc, (hT M[0] (List.getElem_mem hx0)).1]
end Go.Proofs.YtmkjdpnoloofjaaGreat

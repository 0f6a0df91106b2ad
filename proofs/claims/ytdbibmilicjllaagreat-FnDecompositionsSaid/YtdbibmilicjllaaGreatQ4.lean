/-
  LawFnDecompositions: part 4 of the texts that the proof needs. No condition.
-/
import Derived.Test.YtdbibmilicjllaaGreatQ3
namespace Go.Proofs.YtdbibmilicjllaaGreat
open Go.RowKit
/-- The number of odd grades. -/
def cntO (gs : List Int) : Nat := (gs.filter fun g => g % (2 : Int) == 1).length
theorem cntO_le (gs : List Int) : cntO gs ≤ gs.length := List.length_filter_le _ _
theorem cntO_take {gs : List Int} {k : Nat} (hk : k < gs.length) (_h0 : 0 ≤ gs[k]) : ((cntO (gs.take (k + 1)) : Nat) : Int) = (cntO (gs.take k) : Nat) + gs[k] % 2 := by
  unfold cntO
  rw [List.take_succ_eq_append_getElem hk, List.filter_append, List.length_append, List.filter_cons, List.filter_nil]
  by_cases h : gs[k] % (2 : Int) = 1
  · rw [if_pos (by simpa using h), h]; simp
  · rw [if_neg (by simpa using h)]; simp; omega
theorem mix_cnt {gs : List Int} (hg : ∀ g ∈ gs, 0 ≤ g) : mixB gs = (((cntO gs : Nat) : Int) != 0 && ((cntO gs : Nat) : Int) != ((gs.length : Nat) : Int)) := by
  have h1 : cntO gs = 0 ↔ ∀ g ∈ gs, ¬ g % (2 : Int) = 1 := by
    unfold cntO
    rw [List.length_eq_zero_iff, List.filter_eq_nil_iff]
    simp
  have h2 : cntO gs = gs.length ↔ ∀ g ∈ gs, g % (2 : Int) = 1 := by
    unfold cntO
    rw [List.length_filter_eq_length_iff]
    simp
  rw [Bool.eq_iff_iff]
  simp only [Bool.and_eq_true, bne_iff_ne, ne_eq]
  unfold mixB
  rw [List.any_eq_true]
  constructor
  · rintro ⟨g, hm, hne⟩
    have hne := bne_iff_ne.1 hne
    have h0 : gs.getD 0 0 ∈ gs := by
      cases gs with
      | nil => cases hm
      | cons a r => simp
    have p1 := hg g hm
    have p2 := hg _ h0
    refine ⟨fun e => ?_, fun e => ?_⟩
    · have a1 := h1.1 (by omega) g hm
      have a2 := h1.1 (by omega) _ h0
      omega
    · have a1 := h2.1 (by omega) g hm
      have a2 := h2.1 (by omega) _ h0
      omega
  · rintro ⟨ha, hb⟩
    have ha' : ¬ ∀ g ∈ gs, ¬ g % (2 : Int) = 1 := fun h => ha (by rw [h1.2 h]; rfl)
    have hb' : ¬ ∀ g ∈ gs, g % (2 : Int) = 1 := fun h => hb (by rw [h2.2 h])
    by_cases hh : gs.getD 0 0 % (2 : Int) = 1
    · have : ∃ g ∈ gs, ¬ g % (2 : Int) = 1 := Classical.byContradiction fun hn => hb' fun g hm => Classical.byContradiction fun h => hn ⟨g, hm, h⟩
      obtain ⟨g, hm, h⟩ := this
      exact ⟨g, hm, bne_iff_ne.2 (by rw [hh]; exact h)⟩
    · have : ∃ g ∈ gs, g % (2 : Int) = 1 := Classical.byContradiction fun hn => ha' fun g hm h => hn ⟨g, hm, h⟩
      obtain ⟨g, hm, h⟩ := this
      exact ⟨g, hm, bne_iff_ne.2 (by rw [h]; exact fun e => hh e.symm)⟩
/-- What the sandwich makes of basis vector i, but for a factor. -/
def imgL (P : Int) (sq : List Int) (n : Nat) (xs : List Int) (i : Nat) : List Int := mulL P sq (mulL P sq (invoL P xs) (vecTo n (unitRow n i) n)) (revL P xs)
/-- Is it a versor? -/
def versB (P : Int) (sq : List Int) (n : Nat) (xs : List Int) : Bool :=
  !(nrmL P sq xs == 0) && onlyL (mulL P sq xs (revL P xs)) 0 && !(mixB (gradesL xs)) && (List.range n).all fun i => onlyL (imgL P sq n xs i) 1
theorem onlyGrade_b {b : Bool} (X : Option Addr) (m cx : Nat) (xs : List Int) (k : Int) (w : World) (hm : m ≤ 64) (hx : Rd w X m (ints xs)) (h : onlyL xs k = b) :
    Calls Tryz.prog 227 #[.slice X m cx, .int .i64 k] w fun e w' => e = .returned (.bool b) ∧ Below w.heap.size w w' := h ▸ onlyGrade_any X m cx xs k w hm hx
theorem unitM_getD {n i : Nat} (h : i < n) : (unitM n).getD i [] = unitRow n i := by
  rw [getD_of_lt [] (by rw [unitM_len]; exact h), unitM_get]
set_option maxHeartbeats 3200000 in
set_option maxRecDepth 8000 in
theorem isVersor_A (P : Int) (A : Option Addr) (n c : Nat) (sq : List Int) (X : Option Addr) (cx : Nat) (xs : List Int) (w : World) (hp : 2 ≤ P) (hp2 : P ≤ 13) (hn : n ≤ 6) (ha : Rd w A n (ints sq)) (hs : NumsL P sq) (hx : Rd w X (pw n) (ints xs)) (hxs : NumsL P xs) (hcx : pw n ≤ cx) (h1 : nrmL P sq xs = 0) :
    Calls Tryz.prog 160 #[.agg #[.int .i64 P, .slice A n c], .slice X (pw n) cx] w fun e w' => e = .returned (.bool (versB P sq n xs)) ∧ Below w.heap.size w w' := by
  have hB0 : Below w.heap.size w (w.alloc (.cells #[.int .i64 P, .slice A n c] 26)) := (Below.refl _ _).alloc (Nat.le_refl _) _
  have k0 : Blk (w.alloc (.cells #[.int .i64 P, .slice A n c] 26)) w.heap.size 26 #[.int .i64 P, .slice A n c] := Blk.new _ _ _
  have HPW : pw n ≤ 65536 := Nat.le_trans (pw_le (show n ≤ 10 by omega)) (by decide)
  have HPW64 : pw n ≤ 64 := pw_le hn
  have hl7 := gradesL_len xs
  have hrg := gradesL_range xs
  have HT2 : Hid (timesL P sq n [xs, revL P xs] = mulL P sq xs (revL P xs)) := Lib.hid (timesL_two P sq n _ _ hx.lenI hxs)
  obtain ⟨gs, hgs⟩ : ∃ gs, gs = gradesL xs := ⟨_, rfl⟩
  have HGS := Lib.hid hgs
  rw [← hgs] at hl7 hrg
  have HMC : Hid (mixB gs = (((cntO gs : Nat) : Int) != 0 && ((cntO gs : Nat) : Int) != ((gs.length : Nat) : Int))) := Lib.hid (mix_cnt fun g hg => (hrg g hg).1)
  clear hgs
  have b1 : (nrmL P sq xs == 0) = true := by rw [h1]; rfl
  have H1 := Lib.hid b1
  clear h1
  · skip
    go_enter Tryz.func160, Tryz.ntmps160
    go_wp2_with fail
    refine (gradesOf_any X (pw n) cx xs _ HPW64 (hx.below hB0)).mono ?_
    rintro e w1 ⟨A', c', rfl, hM⟩
    have hB1 := hB0.trans (hM.b.mono (by simp))
    have k1 := k0.below hM.b k0.lt
    rw [← HGS.out] at hM ⊢
    obtain ⟨l, hl⟩ : ∃ l, l = gs.length := ⟨_, rfl⟩
    rw [← hl] at hM hl7 ⊢
    have HL := Lib.hid hl
    clear hl k0 hB0
    go_wp2_with fail
    go_loop [5, 8, 15] (fun o _ i => ∃ k : Nat, k ≤ l ∧ i = .int .i64 k ∧ o = .int .i64 ((cntO (gs.take k) : Nat) : Int)) (fun _ _ i => l - (intOf i).toNat)
    case atStart => exact ⟨0, by omega, rfl, rfl⟩
    case round =>
      obtain ⟨k, hk, rfl, rfl⟩ := hrel
      by_cases hlt : k < l
      · obtain ⟨g, o, rfl, hxk, hcx'⟩ := hM.rd.int hlt
        obtain ⟨r1, r2⟩ := hrg _ (List.getElem_mem hxk)
        have HC := Lib.hid (cntO_take hxk r1)
        have hcl := cntO_le (gs.take k)
        have hcl2 : (gs.take k).length ≤ k := List.length_take_le _ _
        obtain ⟨q, hq⟩ : ∃ q, q = cntO (gs.take k) := ⟨_, rfl⟩
        rw [← hq] at hcl ⊢
        have HQ := Lib.hid hq
        clear hq
        go_wp2
        go_round
        case rel => exact ⟨k + 1, by omega, by go_num, by rw [HC.out, HQ.out]⟩
        case measure => simp [intOf]; omega
      · obtain rfl : k = l := by omega
        have e0 : gs.take k = gs := List.take_of_length_le (by rw [← HL.out]; omega)
        rw [e0]
        clear e0
        have hw' : w1 = w1 := rfl
        have k2 := k1
        have hB2 := hB1
        clear k1 hB1
        try rw [← HL.out] at c2
        go_wp2
        refine wp_obs 25 [[], [], [0, 1], [0, 1, 2], [0, 1, 2, 3], [0, 1, 2, 3, 4], [0, 1, 2, 3, 4], [0, 1, 2, 3, 4], [0, 1, 2, 3, 4], [0, 1, 2, 3, 4, 7, 8], [0, 1, 2, 3, 4, 6, 7, 8, 9], [0, 1, 2, 3, 4, 5, 6, 7, 8, 9, 10], [0, 1, 2, 3, 4, 5, 6, 7, 8, 9, 10, 11], [0, 1, 2, 3, 4, 5, 6, 7, 8, 9, 10, 11, 12], [0, 1, 2, 3, 4, 5, 6, 7, 8, 9, 10, 11, 12, 13], [0, 1, 2, 3, 4, 5, 6, 7, 8, 9, 10, 11, 12, 13, 14], [0, 1, 2, 3, 4, 5, 6, 7, 8, 9, 10, 11, 12, 13, 14, 15], [0, 1, 2, 3, 4, 5, 6, 7, 8, 9, 10, 11, 12, 13, 14, 15, 16], [0, 1, 2, 3, 4, 5, 6, 7, 8, 9, 10, 11, 12, 13, 14, 15, 16, 17], [0, 1, 2, 3, 4, 5, 6, 7, 8, 9, 10, 11, 12, 13, 14, 15, 16, 17, 18], [0, 1, 2, 3, 4, 5, 6, 7, 8, 9, 10, 11, 12, 13, 14, 15, 16, 17, 18], [0, 1, 2, 3, 4, 5, 6, 7, 8, 9, 10, 11, 12, 13, 14, 15, 16, 17, 18, 20], [0, 1, 2, 3, 4, 5, 6, 7, 8, 9, 10, 11, 12, 13, 14, 15, 16, 17, 18, 19, 20, 21], [0, 1, 2, 3, 4, 5, 6, 7, 8, 9, 10, 11, 12, 13, 14, 15, 16, 17, 18, 19, 20, 21, 22], [0, 1, 2, 3, 4, 5, 6, 7, 8, 9, 10, 11, 12, 13, 14, 15, 16, 17, 18, 19, 20, 21, 22, 23]] [VIs (.agg #[.int .i64 P, .slice A n c]), VIs (.slice X (pw n) cx), VIs (.int .i64 (nrmL P sq xs)), VIs (.bool true), VIs (.bool true), VIs undef, VIs undef, VIs undef, VIs undef, VIs undef, VIs undef, VIs undef, VIs undef, VIs undef, VIs (.bool true), VIs (.bool true), VIs undef, VIs undef, VIs undef, VIs undef, VIs undef, VIs undef, VIs undef, VIs undef, VIs (.bool true)] (fun w' => Blk w' w.heap.size 26 #[.int .i64 P, .slice A n c] ∧ Below w.heap.size w w') (by kernel_rfl) (by kernel_rfl) (fun _ _ h hb => ⟨h.1.below hb h.1.lt, h.2.trans (hb.mono h.2.size)⟩) (⟨k2.drew, hB2.drew⟩) (fun x => ?_)
        refine obs_step (Eq.trans (by simp only [zA, zC]; exact rfl) rfl) rfl (fun w' hS hV K hK => ?_) ?_
        · obtain ⟨q0, q1⟩ := hS.1.two
          go_simp
          exact hK.out _ _ _ rfl rfl rfl (Below.refl _ _)
        simp only [zD, zE, zF]
        refine obs_step (Eq.trans (by simp only [zA, zB, zC]; exact rfl) rfl) rfl (fun w' hS hV K hK => ?_) ?_
        · obtain ⟨q0, q1⟩ := hS.1.two
          go_simp
          exact hK.out _ _ _ rfl rfl rfl (Below.refl _ _)
        simp only [zD, zE, zF]
        refine obs_step (Eq.trans (by simp only [zA, zB, zC]; exact rfl) rfl) rfl (fun w' hS hV K hK => ?_) ?_
        · simp only [List.mem_cons, List.not_mem_nil, or_false, forall_eq_or_imp, forall_eq, List.getD_cons_succ, List.getD_cons_zero, VIs, VAny] at hV
          obtain ⟨e0, e1⟩ := hV
          obtain ⟨q0, q1⟩ := hS.1.two
          go_simp
          refine (spinorNorm_any P A n c sq _ _ xs _ hp hp2 hn (ha.below hS.2) hs (hx.below hS.2) hxs hcx).mono ?_
          rintro e w1 ⟨rfl, hb⟩
          exact hK.out _ _ _ rfl rfl rfl hb
        simp only [zD, zE, zF]
        refine obs_step (Eq.trans (by simp only [zA, zB, zC]; exact rfl) rfl) rfl (fun w' hS hV K hK => ?_) ?_
        · simp only [List.mem_cons, List.not_mem_nil, or_false, forall_eq_or_imp, forall_eq, List.getD_cons_succ, List.getD_cons_zero, VIs, VAny] at hV
          obtain ⟨e0, e1, e2⟩ := hV
          obtain ⟨q0, q1⟩ := hS.1.two
          go_simp
          exact hK.out _ _ _ rfl rfl rfl (Below.refl _ _)
        simp only [zD, zE, zF]
        refine obs_step (Eq.trans (by simp only [zA, zB, zC]; exact rfl) rfl) rfl (fun w' hS hV K hK => ?_) ?_
        · simp only [List.mem_cons, List.not_mem_nil, or_false, forall_eq_or_imp, forall_eq, List.getD_cons_succ, List.getD_cons_zero, VIs, VAny] at hV
          obtain ⟨e0, e1, e2, e3⟩ := hV
          obtain ⟨q0, q1⟩ := hS.1.two
          go_simp
          exact hK.out _ _ _ rfl rfl rfl (Below.refl _ _)
        simp only [zD, zE, zF]
        refine obs_step (Eq.trans (by simp only [zA, zB, zC]; exact rfl) rfl) rfl (fun w' hS hV K hK => ?_) ?_
        · simp only [List.mem_cons, List.not_mem_nil, or_false, forall_eq_or_imp, forall_eq, List.getD_cons_succ, List.getD_cons_zero, VIs, VAny] at hV
          obtain ⟨e0, e1, e2, e3, e4⟩ := hV
          obtain ⟨q0, q1⟩ := hS.1.two
          go_simp
          exact hK.out _ _ _ rfl rfl rfl (Below.refl _ _)
        simp only [zD, zE, zF]
        refine obs_step (Eq.trans (by simp only [zA, zB, zC]; exact rfl) rfl) rfl (fun w' hS hV K hK => ?_) ?_
        · simp only [List.mem_cons, List.not_mem_nil, or_false, forall_eq_or_imp, forall_eq, List.getD_cons_succ, List.getD_cons_zero, VIs, VAny] at hV
          obtain ⟨e0, e1, e2, e3, e4⟩ := hV
          obtain ⟨q0, q1⟩ := hS.1.two
          go_simp
          exact hK.out _ _ _ rfl rfl rfl (Below.refl _ _)
        simp only [zD, zE, zF]
        refine obs_step (Eq.trans (by simp only [zA, zB, zC]; exact rfl) rfl) rfl (fun w' hS hV K hK => ?_) ?_
        · simp only [List.mem_cons, List.not_mem_nil, or_false, forall_eq_or_imp, forall_eq, List.getD_cons_succ, List.getD_cons_zero, VIs, VAny] at hV
          obtain ⟨e0, e1, e2, e3, e4⟩ := hV
          obtain ⟨q0, q1⟩ := hS.1.two
          go_simp
          exact hK.out _ _ _ rfl rfl rfl (Below.refl _ _)
        simp only [zD, zE, zF]
        refine obs_step (Eq.trans (by simp only [zA, zB, zC]; exact rfl) rfl) rfl (fun w' hS hV K hK => ?_) ?_
        · simp only [List.mem_cons, List.not_mem_nil, or_false, forall_eq_or_imp, forall_eq, List.getD_cons_succ, List.getD_cons_zero, VIs, VAny] at hV
          obtain ⟨e0, e1, e2, e3, e4⟩ := hV
          obtain ⟨q0, q1⟩ := hS.1.two
          go_simp
          exact hK.out _ _ _ rfl rfl rfl (Below.refl _ _)
        simp only [zD, zE, zF]
        refine obs_step (Eq.trans (by simp only [zA, zB, zC]; exact rfl) rfl) rfl (fun w' hS hV K hK => ?_) ?_
        · simp only [List.mem_cons, List.not_mem_nil, or_false, forall_eq_or_imp, forall_eq, List.getD_cons_succ, List.getD_cons_zero, VIs, VAny] at hV
          obtain ⟨e0, e1, e2, e3, e4, e7, e8⟩ := hV
          obtain ⟨q0, q1⟩ := hS.1.two
          go_simp
          exact hK.out _ _ _ rfl rfl rfl (Below.refl _ _)
        simp only [zD, zE, zF]
        refine obs_step (Eq.trans (by simp only [zA, zB, zC]; exact rfl) rfl) rfl (fun w' hS hV K hK => ?_) ?_
        · simp only [List.mem_cons, List.not_mem_nil, or_false, forall_eq_or_imp, forall_eq, List.getD_cons_succ, List.getD_cons_zero, VIs, VAny] at hV
          obtain ⟨e0, e1, e2, e3, e4, e6, e7, e8, e9⟩ := hV
          obtain ⟨q0, q1⟩ := hS.1.two
          go_simp
          exact hK.out _ _ _ rfl rfl rfl (Below.refl _ _)
        simp only [zD, zE, zF]
        refine obs_step (Eq.trans (by simp only [zA, zB, zC]; exact rfl) rfl) rfl (fun w' hS hV K hK => ?_) ?_
        · simp only [List.mem_cons, List.not_mem_nil, or_false, forall_eq_or_imp, forall_eq, List.getD_cons_succ, List.getD_cons_zero, VIs, VAny] at hV
          obtain ⟨e0, e1, e2, e3, e4, e5, e6, e7, e8, e9, e10⟩ := hV
          obtain ⟨q0, q1⟩ := hS.1.two
          go_simp
          exact hK.out _ _ _ rfl rfl rfl (Below.refl _ _)
        simp only [zD, zE, zF]
        refine obs_step (Eq.trans (by simp only [zA, zB, zC]; exact rfl) rfl) rfl (fun w' hS hV K hK => ?_) ?_
        · simp only [List.mem_cons, List.not_mem_nil, or_false, forall_eq_or_imp, forall_eq, List.getD_cons_succ, List.getD_cons_zero, VIs, VAny] at hV
          obtain ⟨e0, e1, e2, e3, e4, e5, e6, e7, e8, e9, e10, e11⟩ := hV
          obtain ⟨q0, q1⟩ := hS.1.two
          go_simp
          exact hK.out _ _ _ rfl rfl rfl (Below.refl _ _)
        simp only [zD, zE, zF]
        refine obs_step (Eq.trans (by simp only [zA, zB, zC]; exact rfl) rfl) rfl (fun w' hS hV K hK => ?_) ?_
        · simp only [List.mem_cons, List.not_mem_nil, or_false, forall_eq_or_imp, forall_eq, List.getD_cons_succ, List.getD_cons_zero, VIs, VAny] at hV
          obtain ⟨e0, e1, e2, e3, e4, e5, e6, e7, e8, e9, e10, e11, e12⟩ := hV
          obtain ⟨q0, q1⟩ := hS.1.two
          go_simp
          exact hK.out _ _ _ rfl rfl rfl (Below.refl _ _)
        simp only [zD, zE, zF]
        refine obs_step (Eq.trans (by simp only [zA, zB, zC]; exact rfl) rfl) rfl (fun w' hS hV K hK => ?_) ?_
        · simp only [List.mem_cons, List.not_mem_nil, or_false, forall_eq_or_imp, forall_eq, List.getD_cons_succ, List.getD_cons_zero, VIs, VAny] at hV
          obtain ⟨e0, e1, e2, e3, e4, e5, e6, e7, e8, e9, e10, e11, e12, e13⟩ := hV
          obtain ⟨q0, q1⟩ := hS.1.two
          go_simp
          exact hK.out _ _ _ rfl rfl rfl (Below.refl _ _)
        simp only [zD, zE, zF]
        refine obs_step (Eq.trans (by simp only [zA, zB, zC]; exact rfl) rfl) rfl (fun w' hS hV K hK => ?_) ?_
        · simp only [List.mem_cons, List.not_mem_nil, or_false, forall_eq_or_imp, forall_eq, List.getD_cons_succ, List.getD_cons_zero, VIs, VAny] at hV
          obtain ⟨e0, e1, e2, e3, e4, e5, e6, e7, e8, e9, e10, e11, e12, e13, e14⟩ := hV
          obtain ⟨q0, q1⟩ := hS.1.two
          go_simp
          exact hK.out _ _ _ rfl rfl rfl (Below.refl _ _)
        simp only [zD, zE, zF]
        refine obs_step (Eq.trans (by simp only [zA, zB, zC]; exact rfl) rfl) rfl (fun w' hS hV K hK => ?_) ?_
        · simp only [List.mem_cons, List.not_mem_nil, or_false, forall_eq_or_imp, forall_eq, List.getD_cons_succ, List.getD_cons_zero, VIs, VAny] at hV
          obtain ⟨e0, e1, e2, e3, e4, e5, e6, e7, e8, e9, e10, e11, e12, e13, e14, e15⟩ := hV
          obtain ⟨q0, q1⟩ := hS.1.two
          go_simp
          exact hK.out _ _ _ rfl rfl rfl (Below.refl _ _)
        simp only [zD, zE, zF]
        refine obs_step (Eq.trans (by simp only [zA, zB, zC]; exact rfl) rfl) rfl (fun w' hS hV K hK => ?_) ?_
        · simp only [List.mem_cons, List.not_mem_nil, or_false, forall_eq_or_imp, forall_eq, List.getD_cons_succ, List.getD_cons_zero, VIs, VAny] at hV
          obtain ⟨e0, e1, e2, e3, e4, e5, e6, e7, e8, e9, e10, e11, e12, e13, e14, e15, e16⟩ := hV
          obtain ⟨q0, q1⟩ := hS.1.two
          go_simp
          exact hK.out _ _ _ rfl rfl rfl (Below.refl _ _)
        simp only [zD, zE, zF]
        refine obs_step (Eq.trans (by simp only [zA, zB, zC]; exact rfl) rfl) rfl (fun w' hS hV K hK => ?_) ?_
        · simp only [List.mem_cons, List.not_mem_nil, or_false, forall_eq_or_imp, forall_eq, List.getD_cons_succ, List.getD_cons_zero, VIs, VAny] at hV
          obtain ⟨e0, e1, e2, e3, e4, e5, e6, e7, e8, e9, e10, e11, e12, e13, e14, e15, e16, e17⟩ := hV
          obtain ⟨q0, q1⟩ := hS.1.two
          go_simp
          exact hK.out _ _ _ rfl rfl rfl (Below.refl _ _)
        simp only [zD, zE, zF]
        refine obs_step (Eq.trans (by simp only [zA, zB, zC]; exact rfl) rfl) rfl (fun w' hS hV K hK => ?_) ?_
        · simp only [List.mem_cons, List.not_mem_nil, or_false, forall_eq_or_imp, forall_eq, List.getD_cons_succ, List.getD_cons_zero, VIs, VAny] at hV
          obtain ⟨e0, e1, e2, e3, e4, e5, e6, e7, e8, e9, e10, e11, e12, e13, e14, e15, e16, e17, e18⟩ := hV
          obtain ⟨q0, q1⟩ := hS.1.two
          go_simp
          exact hK.out _ _ _ rfl rfl rfl (Below.refl _ _)
        simp only [zD, zE, zF]
        refine obs_step (Eq.trans (by simp only [zA, zB, zC]; exact rfl) rfl) rfl (fun w' hS hV K hK => ?_) ?_
        · simp only [List.mem_cons, List.not_mem_nil, or_false, forall_eq_or_imp, forall_eq, List.getD_cons_succ, List.getD_cons_zero, VIs, VAny] at hV
          obtain ⟨e0, e1, e2, e3, e4, e5, e6, e7, e8, e9, e10, e11, e12, e13, e14, e15, e16, e17, e18⟩ := hV
          obtain ⟨q0, q1⟩ := hS.1.two
          go_simp
          exact hK.out _ _ _ rfl rfl rfl (Below.refl _ _)
        simp only [zD, zE, zF]
        refine obs_step (Eq.trans (by simp only [zA, zB, zC]; exact rfl) rfl) rfl (fun w' hS hV K hK => ?_) ?_
        · simp only [List.mem_cons, List.not_mem_nil, or_false, forall_eq_or_imp, forall_eq, List.getD_cons_succ, List.getD_cons_zero, VIs, VAny] at hV
          obtain ⟨e0, e1, e2, e3, e4, e5, e6, e7, e8, e9, e10, e11, e12, e13, e14, e15, e16, e17, e18, e20⟩ := hV
          obtain ⟨q0, q1⟩ := hS.1.two
          go_simp
          exact hK.out _ _ _ rfl rfl rfl (Below.refl _ _)
        simp only [zD, zE, zF]
        refine obs_step (Eq.trans (by simp only [zA, zB, zC]; exact rfl) rfl) rfl (fun w' hS hV K hK => ?_) ?_
        · simp only [List.mem_cons, List.not_mem_nil, or_false, forall_eq_or_imp, forall_eq, List.getD_cons_succ, List.getD_cons_zero, VIs, VAny] at hV
          obtain ⟨e0, e1, e2, e3, e4, e5, e6, e7, e8, e9, e10, e11, e12, e13, e14, e15, e16, e17, e18, e19, e20, e21⟩ := hV
          obtain ⟨q0, q1⟩ := hS.1.two
          go_simp
          exact hK.out _ _ _ rfl rfl rfl (Below.refl _ _)
        simp only [zD, zE, zF]
        refine obs_step (Eq.trans (by simp only [zA, zB, zC]; exact rfl) rfl) rfl (fun w' hS hV K hK => ?_) ?_
        · simp only [List.mem_cons, List.not_mem_nil, or_false, forall_eq_or_imp, forall_eq, List.getD_cons_succ, List.getD_cons_zero, VIs, VAny] at hV
          obtain ⟨e0, e1, e2, e3, e4, e5, e6, e7, e8, e9, e10, e11, e12, e13, e14, e15, e16, e17, e18, e19, e20, e21, e22⟩ := hV
          obtain ⟨q0, q1⟩ := hS.1.two
          go_simp
          exact hK.out _ _ _ rfl rfl rfl (Below.refl _ _)
        simp only [zD, zE, zF]
        refine obs_step (Eq.trans (by simp only [zA, zB, zC]; exact rfl) rfl) rfl (fun w' hS hV K hK => ?_) ?_
        · simp only [List.mem_cons, List.not_mem_nil, or_false, forall_eq_or_imp, forall_eq, List.getD_cons_succ, List.getD_cons_zero, VIs, VAny] at hV
          obtain ⟨e0, e1, e2, e3, e4, e5, e6, e7, e8, e9, e10, e11, e12, e13, e14, e15, e16, e17, e18, e19, e20, e21, e22, e23⟩ := hV
          obtain ⟨q0, q1⟩ := hS.1.two
          go_simp
          exact hK.out _ _ _ rfl rfl rfl (Below.refl _ _)
        simp only [zD, zE, zF]
        refine fun w' hS hV => ?_
        have hV := fun i hi => hV i (List.mem_range.1 hi)
        simp only [List.range, List.range.loop, List.mem_cons, List.not_mem_nil, or_false, forall_eq_or_imp, forall_eq, List.getD_cons_succ, List.getD_cons_zero, VIs, VAny] at hV
        obtain ⟨e0, e1, e2, e3, e4, e5, e6, e7, e8, e9, e10, e11, e12, e13, e14, e15, e16, e17, e18, e19, e20, e21, e22, e23, e24⟩ := hV
        simp only [e0, e1, e2, e3, e4, e5, e6, e7, e8, e9, e10, e11, e12, e13, e14, e15, e16, e17, e18, e19, e20, e21, e22, e23, e24]
        clear e0 e1 e2 e3 e4 e5 e6 e7 e8 e9 e10 e11 e12 e13 e14 e15 e16 e17 e18 e19 e20 e21 e22 e23 e24
        refine wpAny_done (by kernel_rfl) ?_ _
        go_wp2
        go_ret
        exact ⟨ret_bool (by unfold versB; rw [H1.out]; rfl), hS.2⟩
set_option maxHeartbeats 3200000 in
set_option maxRecDepth 8000 in
theorem isVersor_B (P : Int) (A : Option Addr) (n c : Nat) (sq : List Int) (X : Option Addr) (cx : Nat) (xs : List Int) (w : World) (hp : 2 ≤ P) (hp2 : P ≤ 13) (hn : n ≤ 6) (ha : Rd w A n (ints sq)) (hs : NumsL P sq) (hx : Rd w X (pw n) (ints xs)) (hxs : NumsL P xs) (hcx : pw n ≤ cx) (h1 : ¬ nrmL P sq xs = 0) (h2 : onlyL (mulL P sq xs (revL P xs)) 0 = false) :
    Calls Tryz.prog 160 #[.agg #[.int .i64 P, .slice A n c], .slice X (pw n) cx] w fun e w' => e = .returned (.bool (versB P sq n xs)) ∧ Below w.heap.size w w' := by
  have hB0 : Below w.heap.size w (w.alloc (.cells #[.int .i64 P, .slice A n c] 26)) := (Below.refl _ _).alloc (Nat.le_refl _) _
  have k0 : Blk (w.alloc (.cells #[.int .i64 P, .slice A n c] 26)) w.heap.size 26 #[.int .i64 P, .slice A n c] := Blk.new _ _ _
  have HPW : pw n ≤ 65536 := Nat.le_trans (pw_le (show n ≤ 10 by omega)) (by decide)
  have HPW64 : pw n ≤ 64 := pw_le hn
  have hl7 := gradesL_len xs
  have hrg := gradesL_range xs
  have HT2 : Hid (timesL P sq n [xs, revL P xs] = mulL P sq xs (revL P xs)) := Lib.hid (timesL_two P sq n _ _ hx.lenI hxs)
  obtain ⟨gs, hgs⟩ : ∃ gs, gs = gradesL xs := ⟨_, rfl⟩
  have HGS := Lib.hid hgs
  rw [← hgs] at hl7 hrg
  have HMC : Hid (mixB gs = (((cntO gs : Nat) : Int) != 0 && ((cntO gs : Nat) : Int) != ((gs.length : Nat) : Int))) := Lib.hid (mix_cnt fun g hg => (hrg g hg).1)
  clear hgs
  have b1 : (nrmL P sq xs == 0) = false := by simp [h1]
  have H1 := Lib.hid b1
  have H2 := Lib.hid h2
  have HO : Hid (onlyL (timesL P sq n [xs, revL P xs]) 0 = false) := Lib.hid (by rw [HT2.out]; exact h2)
  clear h1 h2
  · skip
    go_enter Tryz.func160, Tryz.ntmps160
    go_wp2_with fail
    refine (gradesOf_any X (pw n) cx xs _ HPW64 (hx.below hB0)).mono ?_
    rintro e w1 ⟨A', c', rfl, hM⟩
    have hB1 := hB0.trans (hM.b.mono (by simp))
    have k1 := k0.below hM.b k0.lt
    rw [← HGS.out] at hM ⊢
    obtain ⟨l, hl⟩ : ∃ l, l = gs.length := ⟨_, rfl⟩
    rw [← hl] at hM hl7 ⊢
    have HL := Lib.hid hl
    clear hl k0 hB0
    go_wp2_with fail
    go_loop [5, 8, 15] (fun o _ i => ∃ k : Nat, k ≤ l ∧ i = .int .i64 k ∧ o = .int .i64 ((cntO (gs.take k) : Nat) : Int)) (fun _ _ i => l - (intOf i).toNat)
    case atStart => exact ⟨0, by omega, rfl, rfl⟩
    case round =>
      obtain ⟨k, hk, rfl, rfl⟩ := hrel
      by_cases hlt : k < l
      · obtain ⟨g, o, rfl, hxk, hcx'⟩ := hM.rd.int hlt
        obtain ⟨r1, r2⟩ := hrg _ (List.getElem_mem hxk)
        have HC := Lib.hid (cntO_take hxk r1)
        have hcl := cntO_le (gs.take k)
        have hcl2 : (gs.take k).length ≤ k := List.length_take_le _ _
        obtain ⟨q, hq⟩ : ∃ q, q = cntO (gs.take k) := ⟨_, rfl⟩
        rw [← hq] at hcl ⊢
        have HQ := Lib.hid hq
        clear hq
        go_wp2
        go_round
        case rel => exact ⟨k + 1, by omega, by go_num, by rw [HC.out, HQ.out]⟩
        case measure => simp [intOf]; omega
      · obtain rfl : k = l := by omega
        have e0 : gs.take k = gs := List.take_of_length_le (by rw [← HL.out]; omega)
        rw [e0]
        clear e0
        have hw' : w1 = w1 := rfl
        have k2 := k1
        have hB2 := hB1
        clear k1 hB1
        try rw [← HL.out] at c2
        go_wp2
        refine wp_obs 25 [[], [], [0, 1], [0, 1, 2], [0, 1, 2, 3], [0, 1, 2, 3, 4], [0, 1, 2, 3, 4], [0, 1, 2, 3, 4], [0, 1, 2, 3, 4], [0, 1, 2, 3, 4, 7, 8], [0, 1, 2, 3, 4, 6, 7, 8, 9], [0, 1, 2, 3, 4, 5, 6, 7, 8, 9, 10], [0, 1, 2, 3, 4, 5, 6, 7, 8, 9, 10, 11], [0, 1, 2, 3, 4, 5, 6, 7, 8, 9, 10, 11, 12], [0, 1, 2, 3, 4, 5, 6, 7, 8, 9, 10, 11, 12, 13], [0, 1, 2, 3, 4, 5, 6, 7, 8, 9, 10, 11, 12, 13, 14], [0, 1, 2, 3, 4, 5, 6, 7, 8, 9, 10, 11, 12, 13, 14, 15], [0, 1, 2, 3, 4, 5, 6, 7, 8, 9, 10, 11, 12, 13, 14, 15, 16], [0, 1, 2, 3, 4, 5, 6, 7, 8, 9, 10, 11, 12, 13, 14, 15, 16, 17], [0, 1, 2, 3, 4, 5, 6, 7, 8, 9, 10, 11, 12, 13, 14, 15, 16, 17, 18], [0, 1, 2, 3, 4, 5, 6, 7, 8, 9, 10, 11, 12, 13, 14, 15, 16, 17, 18], [0, 1, 2, 3, 4, 5, 6, 7, 8, 9, 10, 11, 12, 13, 14, 15, 16, 17, 18, 20], [0, 1, 2, 3, 4, 5, 6, 7, 8, 9, 10, 11, 12, 13, 14, 15, 16, 17, 18, 19, 20, 21], [0, 1, 2, 3, 4, 5, 6, 7, 8, 9, 10, 11, 12, 13, 14, 15, 16, 17, 18, 19, 20, 21, 22], [0, 1, 2, 3, 4, 5, 6, 7, 8, 9, 10, 11, 12, 13, 14, 15, 16, 17, 18, 19, 20, 21, 22, 23]] [VIs (.agg #[.int .i64 P, .slice A n c]), VIs (.slice X (pw n) cx), VIs (.int .i64 (nrmL P sq xs)), VIs (.bool false), VIs (.bool false), VIs (.agg #[.int .i64 P, .slice A n c]), VIs (.slice X (pw n) cx), VIs (.agg #[.int .i64 P, .slice A n c]), VIs (.slice X (pw n) cx), VSl w (pw n) (revL P xs), VRow 2 [xs, (revL P xs)], VSl w (pw n) (timesL P sq n [xs, (revL P xs)]), VIs (.bool false), VIs (.bool true), VIs (.bool true), VIs (.bool true), VIs undef, VIs undef, VIs undef, VIs undef, VIs undef, VIs undef, VIs undef, VIs undef, VIs (.bool true)] (fun w' => Blk w' w.heap.size 26 #[.int .i64 P, .slice A n c] ∧ Below w.heap.size w w') (by kernel_rfl) (by kernel_rfl) (fun _ _ h hb => ⟨h.1.below hb h.1.lt, h.2.trans (hb.mono h.2.size)⟩) (⟨k2.drew, hB2.drew⟩) (fun x => ?_)
        refine obs_step (Eq.trans (by simp only [zA, zC]; exact rfl) rfl) rfl (fun w' hS hV K hK => ?_) ?_
        · obtain ⟨q0, q1⟩ := hS.1.two
          go_simp
          exact hK.out _ _ _ rfl rfl rfl (Below.refl _ _)
        simp only [zD, zE, zF]
        refine obs_step (Eq.trans (by simp only [zA, zB, zC]; exact rfl) rfl) rfl (fun w' hS hV K hK => ?_) ?_
        · obtain ⟨q0, q1⟩ := hS.1.two
          go_simp
          exact hK.out _ _ _ rfl rfl rfl (Below.refl _ _)
        simp only [zD, zE, zF]
        refine obs_step (Eq.trans (by simp only [zA, zB, zC]; exact rfl) rfl) rfl (fun w' hS hV K hK => ?_) ?_
        · simp only [List.mem_cons, List.not_mem_nil, or_false, forall_eq_or_imp, forall_eq, List.getD_cons_succ, List.getD_cons_zero, VIs, VSl, VRow, VAny] at hV
          obtain ⟨e0, e1⟩ := hV
          obtain ⟨q0, q1⟩ := hS.1.two
          go_simp
          refine (spinorNorm_any P A n c sq _ _ xs _ hp hp2 hn (ha.below hS.2) hs (hx.below hS.2) hxs hcx).mono ?_
          rintro e w1 ⟨rfl, hb⟩
          exact hK.out _ _ _ rfl rfl rfl hb
        simp only [zD, zE, zF]
        refine obs_step (Eq.trans (by simp only [zA, zB, zC]; exact rfl) rfl) rfl (fun w' hS hV K hK => ?_) ?_
        · simp only [List.mem_cons, List.not_mem_nil, or_false, forall_eq_or_imp, forall_eq, List.getD_cons_succ, List.getD_cons_zero, VIs, VSl, VRow, VAny] at hV
          obtain ⟨e0, e1, e2⟩ := hV
          obtain ⟨q0, q1⟩ := hS.1.two
          go_simp
          exact hK.out _ _ _ rfl rfl rfl (Below.refl _ _)
        simp only [zD, zE, zF]
        refine obs_step (Eq.trans (by simp only [zA, zB, zC]; exact rfl) rfl) rfl (fun w' hS hV K hK => ?_) ?_
        · simp only [List.mem_cons, List.not_mem_nil, or_false, forall_eq_or_imp, forall_eq, List.getD_cons_succ, List.getD_cons_zero, VIs, VSl, VRow, VAny] at hV
          obtain ⟨e0, e1, e2, e3⟩ := hV
          obtain ⟨q0, q1⟩ := hS.1.two
          go_simp
          exact hK.out _ _ _ rfl rfl rfl (Below.refl _ _)
        simp only [zD, zE, zF]
        refine obs_step (Eq.trans (by simp only [zA, zB, zC]; exact rfl) rfl) rfl (fun w' hS hV K hK => ?_) ?_
        · simp only [List.mem_cons, List.not_mem_nil, or_false, forall_eq_or_imp, forall_eq, List.getD_cons_succ, List.getD_cons_zero, VIs, VSl, VRow, VAny] at hV
          obtain ⟨e0, e1, e2, e3, e4⟩ := hV
          obtain ⟨q0, q1⟩ := hS.1.two
          go_simp
          exact hK.out _ _ _ rfl rfl rfl (Below.refl _ _)
        simp only [zD, zE, zF]
        refine obs_step (Eq.trans (by simp only [zA, zB, zC]; exact rfl) rfl) rfl (fun w' hS hV K hK => ?_) ?_
        · simp only [List.mem_cons, List.not_mem_nil, or_false, forall_eq_or_imp, forall_eq, List.getD_cons_succ, List.getD_cons_zero, VIs, VSl, VRow, VAny] at hV
          obtain ⟨e0, e1, e2, e3, e4⟩ := hV
          obtain ⟨q0, q1⟩ := hS.1.two
          go_simp
          exact hK.out _ _ _ rfl rfl rfl (Below.refl _ _)
        simp only [zD, zE, zF]
        refine obs_step (Eq.trans (by simp only [zA, zB, zC]; exact rfl) rfl) rfl (fun w' hS hV K hK => ?_) ?_
        · simp only [List.mem_cons, List.not_mem_nil, or_false, forall_eq_or_imp, forall_eq, List.getD_cons_succ, List.getD_cons_zero, VIs, VSl, VRow, VAny] at hV
          obtain ⟨e0, e1, e2, e3, e4⟩ := hV
          obtain ⟨q0, q1⟩ := hS.1.two
          go_simp
          exact hK.out _ _ _ rfl rfl rfl (Below.refl _ _)
        simp only [zD, zE, zF]
        refine obs_step (Eq.trans (by simp only [zA, zB, zC]; exact rfl) rfl) rfl (fun w' hS hV K hK => ?_) ?_
        · simp only [List.mem_cons, List.not_mem_nil, or_false, forall_eq_or_imp, forall_eq, List.getD_cons_succ, List.getD_cons_zero, VIs, VSl, VRow, VAny] at hV
          obtain ⟨e0, e1, e2, e3, e4⟩ := hV
          obtain ⟨q0, q1⟩ := hS.1.two
          go_simp
          exact hK.out _ _ _ rfl rfl rfl (Below.refl _ _)
        simp only [zD, zE, zF]
        refine obs_step (Eq.trans (by simp only [zA, zB, zC]; exact rfl) rfl) rfl (fun w' hS hV K hK => ?_) ?_
        · simp only [List.mem_cons, List.not_mem_nil, or_false, forall_eq_or_imp, forall_eq, List.getD_cons_succ, List.getD_cons_zero, VIs, VSl, VRow, VAny] at hV
          obtain ⟨e0, e1, e2, e3, e4, e7, e8⟩ := hV
          obtain ⟨q0, q1⟩ := hS.1.two
          go_simp
          refine (reverse_any P A n c _ (pw n) _ xs _ hp hp2 HPW64 (hx.below hS.2) hxs).mono ?_
          rintro e w1 ⟨A2, c2, rfl, hM⟩
          exact hK.out _ _ _ rfl rfl ⟨_, _, rfl, hM.after hS.2⟩ hM.b
        simp only [zD, zE, zF]
        refine obs_step (Eq.trans (by simp only [zA, zB, zC]; exact rfl) rfl) rfl (fun w' hS hV K hK => ?_) ?_
        · simp only [List.mem_cons, List.not_mem_nil, or_false, forall_eq_or_imp, forall_eq, List.getD_cons_succ, List.getD_cons_zero, VIs, VSl, VRow, VAny] at hV
          obtain ⟨e0, e1, e2, e3, e4, e6, e7, e8, ⟨A9, c9, e9, h9⟩⟩ := hV
          obtain ⟨q0, q1⟩ := hS.1.two
          go_simp
          exact hK.out _ _ _ rfl rfl ⟨_, _, rfl, rdII_two (Blk.new _ _ _) (Rd.below ((hx.below hS.2)) ((Below.refl _ _).alloc (Nat.le_refl _) _)) (Rd.below (h9.rd) ((Below.refl _ _).alloc (Nat.le_refl _) _)) (hcx) (h9.2.cap)⟩ ((Below.refl _ _).alloc (Nat.le_refl _) _)
        simp only [zD, zE, zF]
        refine obs_step (Eq.trans (by simp only [zA, zB, zC]; exact rfl) rfl) rfl (fun w' hS hV K hK => ?_) ?_
        · simp only [List.mem_cons, List.not_mem_nil, or_false, forall_eq_or_imp, forall_eq, List.getD_cons_succ, List.getD_cons_zero, VIs, VSl, VRow, VAny] at hV
          obtain ⟨e0, e1, e2, e3, e4, e5, e6, e7, e8, ⟨A9, c9, e9, h9⟩, ⟨A10, c10, e10, h10⟩⟩ := hV
          obtain ⟨q0, q1⟩ := hS.1.two
          go_simp
          refine (times_any P A n c sq _ 2 _ [xs, (revL P xs)] _ hp hp2 hn (by omega) (ha.below hS.2) hs h10 (all_two ⟨hxs, Rd.lenI ((hx.below hS.2))⟩ ⟨(sgnL_nums (by omega) revT hxs), Rd.lenI (h9.rd)⟩)).mono ?_
          rintro e w1 ⟨A2, c2, rfl, hM⟩
          exact hK.out _ _ _ rfl rfl ⟨_, _, rfl, hM.after hS.2⟩ hM.b
        simp only [zD, zE, zF]
        refine obs_step (Eq.trans (by simp only [zA, zB, zC]; exact rfl) rfl) rfl (fun w' hS hV K hK => ?_) ?_
        · simp only [List.mem_cons, List.not_mem_nil, or_false, forall_eq_or_imp, forall_eq, List.getD_cons_succ, List.getD_cons_zero, VIs, VSl, VRow, VAny] at hV
          obtain ⟨e0, e1, e2, e3, e4, e5, e6, e7, e8, ⟨A9, c9, e9, h9⟩, ⟨A10, c10, e10, h10⟩, ⟨A11, c11, e11, h11⟩⟩ := hV
          obtain ⟨q0, q1⟩ := hS.1.two
          go_simp
          refine (onlyGrade_b _ _ _ _ _ _ HPW64 h11.rd HO.out).mono ?_
          rintro e w1 ⟨rfl, hb⟩
          exact hK.out _ _ _ rfl rfl rfl hb
        simp only [zD, zE, zF]
        refine obs_step (Eq.trans (by simp only [zA, zB, zC]; exact rfl) rfl) rfl (fun w' hS hV K hK => ?_) ?_
        · simp only [List.mem_cons, List.not_mem_nil, or_false, forall_eq_or_imp, forall_eq, List.getD_cons_succ, List.getD_cons_zero, VIs, VSl, VRow, VAny] at hV
          obtain ⟨e0, e1, e2, e3, e4, e5, e6, e7, e8, ⟨A9, c9, e9, h9⟩, ⟨A10, c10, e10, h10⟩, ⟨A11, c11, e11, h11⟩, e12⟩ := hV
          obtain ⟨q0, q1⟩ := hS.1.two
          go_simp
          exact hK.out _ _ _ rfl rfl rfl (Below.refl _ _)
        simp only [zD, zE, zF]
        refine obs_step (Eq.trans (by simp only [zA, zB, zC]; exact rfl) rfl) rfl (fun w' hS hV K hK => ?_) ?_
        · simp only [List.mem_cons, List.not_mem_nil, or_false, forall_eq_or_imp, forall_eq, List.getD_cons_succ, List.getD_cons_zero, VIs, VSl, VRow, VAny] at hV
          obtain ⟨e0, e1, e2, e3, e4, e5, e6, e7, e8, ⟨A9, c9, e9, h9⟩, ⟨A10, c10, e10, h10⟩, ⟨A11, c11, e11, h11⟩, e12, e13⟩ := hV
          obtain ⟨q0, q1⟩ := hS.1.two
          go_simp
          exact hK.out _ _ _ rfl rfl rfl (Below.refl _ _)
        simp only [zD, zE, zF]
        refine obs_step (Eq.trans (by simp only [zA, zB, zC]; exact rfl) rfl) rfl (fun w' hS hV K hK => ?_) ?_
        · simp only [List.mem_cons, List.not_mem_nil, or_false, forall_eq_or_imp, forall_eq, List.getD_cons_succ, List.getD_cons_zero, VIs, VSl, VRow, VAny] at hV
          obtain ⟨e0, e1, e2, e3, e4, e5, e6, e7, e8, ⟨A9, c9, e9, h9⟩, ⟨A10, c10, e10, h10⟩, ⟨A11, c11, e11, h11⟩, e12, e13, e14⟩ := hV
          obtain ⟨q0, q1⟩ := hS.1.two
          go_simp
          exact hK.out _ _ _ rfl rfl rfl (Below.refl _ _)
        simp only [zD, zE, zF]
        refine obs_step (Eq.trans (by simp only [zA, zB, zC]; exact rfl) rfl) rfl (fun w' hS hV K hK => ?_) ?_
        · simp only [List.mem_cons, List.not_mem_nil, or_false, forall_eq_or_imp, forall_eq, List.getD_cons_succ, List.getD_cons_zero, VIs, VSl, VRow, VAny] at hV
          obtain ⟨e0, e1, e2, e3, e4, e5, e6, e7, e8, ⟨A9, c9, e9, h9⟩, ⟨A10, c10, e10, h10⟩, ⟨A11, c11, e11, h11⟩, e12, e13, e14, e15⟩ := hV
          obtain ⟨q0, q1⟩ := hS.1.two
          go_simp
          exact hK.out _ _ _ rfl rfl rfl (Below.refl _ _)
        simp only [zD, zE, zF]
        refine obs_step (Eq.trans (by simp only [zA, zB, zC]; exact rfl) rfl) rfl (fun w' hS hV K hK => ?_) ?_
        · simp only [List.mem_cons, List.not_mem_nil, or_false, forall_eq_or_imp, forall_eq, List.getD_cons_succ, List.getD_cons_zero, VIs, VSl, VRow, VAny] at hV
          obtain ⟨e0, e1, e2, e3, e4, e5, e6, e7, e8, ⟨A9, c9, e9, h9⟩, ⟨A10, c10, e10, h10⟩, ⟨A11, c11, e11, h11⟩, e12, e13, e14, e15, e16⟩ := hV
          obtain ⟨q0, q1⟩ := hS.1.two
          go_simp
          exact hK.out _ _ _ rfl rfl rfl (Below.refl _ _)
        simp only [zD, zE, zF]
        refine obs_step (Eq.trans (by simp only [zA, zB, zC]; exact rfl) rfl) rfl (fun w' hS hV K hK => ?_) ?_
        · simp only [List.mem_cons, List.not_mem_nil, or_false, forall_eq_or_imp, forall_eq, List.getD_cons_succ, List.getD_cons_zero, VIs, VSl, VRow, VAny] at hV
          obtain ⟨e0, e1, e2, e3, e4, e5, e6, e7, e8, ⟨A9, c9, e9, h9⟩, ⟨A10, c10, e10, h10⟩, ⟨A11, c11, e11, h11⟩, e12, e13, e14, e15, e16, e17⟩ := hV
          obtain ⟨q0, q1⟩ := hS.1.two
          go_simp
          exact hK.out _ _ _ rfl rfl rfl (Below.refl _ _)
        simp only [zD, zE, zF]
        refine obs_step (Eq.trans (by simp only [zA, zB, zC]; exact rfl) rfl) rfl (fun w' hS hV K hK => ?_) ?_
        · simp only [List.mem_cons, List.not_mem_nil, or_false, forall_eq_or_imp, forall_eq, List.getD_cons_succ, List.getD_cons_zero, VIs, VSl, VRow, VAny] at hV
          obtain ⟨e0, e1, e2, e3, e4, e5, e6, e7, e8, ⟨A9, c9, e9, h9⟩, ⟨A10, c10, e10, h10⟩, ⟨A11, c11, e11, h11⟩, e12, e13, e14, e15, e16, e17, e18⟩ := hV
          obtain ⟨q0, q1⟩ := hS.1.two
          go_simp
          exact hK.out _ _ _ rfl rfl rfl (Below.refl _ _)
        simp only [zD, zE, zF]
        refine obs_step (Eq.trans (by simp only [zA, zB, zC]; exact rfl) rfl) rfl (fun w' hS hV K hK => ?_) ?_
        · simp only [List.mem_cons, List.not_mem_nil, or_false, forall_eq_or_imp, forall_eq, List.getD_cons_succ, List.getD_cons_zero, VIs, VSl, VRow, VAny] at hV
          obtain ⟨e0, e1, e2, e3, e4, e5, e6, e7, e8, ⟨A9, c9, e9, h9⟩, ⟨A10, c10, e10, h10⟩, ⟨A11, c11, e11, h11⟩, e12, e13, e14, e15, e16, e17, e18⟩ := hV
          obtain ⟨q0, q1⟩ := hS.1.two
          go_simp
          exact hK.out _ _ _ rfl rfl rfl (Below.refl _ _)
        simp only [zD, zE, zF]
        refine obs_step (Eq.trans (by simp only [zA, zB, zC]; exact rfl) rfl) rfl (fun w' hS hV K hK => ?_) ?_
        · simp only [List.mem_cons, List.not_mem_nil, or_false, forall_eq_or_imp, forall_eq, List.getD_cons_succ, List.getD_cons_zero, VIs, VSl, VRow, VAny] at hV
          obtain ⟨e0, e1, e2, e3, e4, e5, e6, e7, e8, ⟨A9, c9, e9, h9⟩, ⟨A10, c10, e10, h10⟩, ⟨A11, c11, e11, h11⟩, e12, e13, e14, e15, e16, e17, e18, e20⟩ := hV
          obtain ⟨q0, q1⟩ := hS.1.two
          go_simp
          exact hK.out _ _ _ rfl rfl rfl (Below.refl _ _)
        simp only [zD, zE, zF]
        refine obs_step (Eq.trans (by simp only [zA, zB, zC]; exact rfl) rfl) rfl (fun w' hS hV K hK => ?_) ?_
        · simp only [List.mem_cons, List.not_mem_nil, or_false, forall_eq_or_imp, forall_eq, List.getD_cons_succ, List.getD_cons_zero, VIs, VSl, VRow, VAny] at hV
          obtain ⟨e0, e1, e2, e3, e4, e5, e6, e7, e8, ⟨A9, c9, e9, h9⟩, ⟨A10, c10, e10, h10⟩, ⟨A11, c11, e11, h11⟩, e12, e13, e14, e15, e16, e17, e18, e19, e20, e21⟩ := hV
          obtain ⟨q0, q1⟩ := hS.1.two
          go_simp
          exact hK.out _ _ _ rfl rfl rfl (Below.refl _ _)
        simp only [zD, zE, zF]
        refine obs_step (Eq.trans (by simp only [zA, zB, zC]; exact rfl) rfl) rfl (fun w' hS hV K hK => ?_) ?_
        · simp only [List.mem_cons, List.not_mem_nil, or_false, forall_eq_or_imp, forall_eq, List.getD_cons_succ, List.getD_cons_zero, VIs, VSl, VRow, VAny] at hV
          obtain ⟨e0, e1, e2, e3, e4, e5, e6, e7, e8, ⟨A9, c9, e9, h9⟩, ⟨A10, c10, e10, h10⟩, ⟨A11, c11, e11, h11⟩, e12, e13, e14, e15, e16, e17, e18, e19, e20, e21, e22⟩ := hV
          obtain ⟨q0, q1⟩ := hS.1.two
          go_simp
          exact hK.out _ _ _ rfl rfl rfl (Below.refl _ _)
        simp only [zD, zE, zF]
        refine obs_step (Eq.trans (by simp only [zA, zB, zC]; exact rfl) rfl) rfl (fun w' hS hV K hK => ?_) ?_
        · simp only [List.mem_cons, List.not_mem_nil, or_false, forall_eq_or_imp, forall_eq, List.getD_cons_succ, List.getD_cons_zero, VIs, VSl, VRow, VAny] at hV
          obtain ⟨e0, e1, e2, e3, e4, e5, e6, e7, e8, ⟨A9, c9, e9, h9⟩, ⟨A10, c10, e10, h10⟩, ⟨A11, c11, e11, h11⟩, e12, e13, e14, e15, e16, e17, e18, e19, e20, e21, e22, e23⟩ := hV
          obtain ⟨q0, q1⟩ := hS.1.two
          go_simp
          exact hK.out _ _ _ rfl rfl rfl (Below.refl _ _)
        simp only [zD, zE, zF]
        refine fun w' hS hV => ?_
        have hV := fun i hi => hV i (List.mem_range.1 hi)
        simp only [List.range, List.range.loop, List.mem_cons, List.not_mem_nil, or_false, forall_eq_or_imp, forall_eq, List.getD_cons_succ, List.getD_cons_zero, VIs, VSl, VRow, VAny] at hV
        obtain ⟨e0, e1, e2, e3, e4, e5, e6, e7, e8, ⟨A9, c9, e9, h9⟩, ⟨A10, c10, e10, h10⟩, ⟨A11, c11, e11, h11⟩, e12, e13, e14, e15, e16, e17, e18, e19, e20, e21, e22, e23, e24⟩ := hV
        simp only [e0, e1, e2, e3, e4, e5, e6, e7, e8, e9, e10, e11, e12, e13, e14, e15, e16, e17, e18, e19, e20, e21, e22, e23, e24]
        clear e0 e1 e2 e3 e4 e5 e6 e7 e8 e9 e10 e11 e12 e13 e14 e15 e16 e17 e18 e19 e20 e21 e22 e23 e24
        refine wpAny_done (by kernel_rfl) ?_ _
        go_wp2
        go_ret
        exact ⟨ret_bool (by unfold versB; rw [H1.out, H2.out]; rfl), hS.2⟩
set_option maxHeartbeats 3200000 in
set_option maxRecDepth 8000 in
theorem isVersor_C (P : Int) (A : Option Addr) (n c : Nat) (sq : List Int) (X : Option Addr) (cx : Nat) (xs : List Int) (w : World) (hp : 2 ≤ P) (hp2 : P ≤ 13) (hn : n ≤ 6) (ha : Rd w A n (ints sq)) (hs : NumsL P sq) (hx : Rd w X (pw n) (ints xs)) (hxs : NumsL P xs) (hcx : pw n ≤ cx) (h1 : ¬ nrmL P sq xs = 0) (h2 : onlyL (mulL P sq xs (revL P xs)) 0 = true) (h3 : mixB (gradesL xs) = true) :
    Calls Tryz.prog 160 #[.agg #[.int .i64 P, .slice A n c], .slice X (pw n) cx] w fun e w' => e = .returned (.bool (versB P sq n xs)) ∧ Below w.heap.size w w' := by
  have hB0 : Below w.heap.size w (w.alloc (.cells #[.int .i64 P, .slice A n c] 26)) := (Below.refl _ _).alloc (Nat.le_refl _) _
  have k0 : Blk (w.alloc (.cells #[.int .i64 P, .slice A n c] 26)) w.heap.size 26 #[.int .i64 P, .slice A n c] := Blk.new _ _ _
  have HPW : pw n ≤ 65536 := Nat.le_trans (pw_le (show n ≤ 10 by omega)) (by decide)
  have HPW64 : pw n ≤ 64 := pw_le hn
  have hl7 := gradesL_len xs
  have hrg := gradesL_range xs
  have HT2 : Hid (timesL P sq n [xs, revL P xs] = mulL P sq xs (revL P xs)) := Lib.hid (timesL_two P sq n _ _ hx.lenI hxs)
  obtain ⟨gs, hgs⟩ : ∃ gs, gs = gradesL xs := ⟨_, rfl⟩
  have HGS := Lib.hid hgs
  rw [← hgs] at hl7 hrg
  have HMC : Hid (mixB gs = (((cntO gs : Nat) : Int) != 0 && ((cntO gs : Nat) : Int) != ((gs.length : Nat) : Int))) := Lib.hid (mix_cnt fun g hg => (hrg g hg).1)
  clear hgs
  have b1 : (nrmL P sq xs == 0) = false := by simp [h1]
  have H1 := Lib.hid b1
  have H2 := Lib.hid h2
  have HO : Hid (onlyL (timesL P sq n [xs, revL P xs]) 0 = true) := Lib.hid (by rw [HT2.out]; exact h2)
  have H3 := Lib.hid h3
  have hmx := HMC.out
  rw [HGS.out, h3, ← HGS.out] at hmx
  have hmx2 := Bool.and_eq_true_iff.1 hmx.symm
  obtain ⟨c1, c2⟩ := hmx2
  clear h1 h2 h3 hmx
  · skip
    go_enter Tryz.func160, Tryz.ntmps160
    go_wp2_with fail
    refine (gradesOf_any X (pw n) cx xs _ HPW64 (hx.below hB0)).mono ?_
    rintro e w1 ⟨A', c', rfl, hM⟩
    have hB1 := hB0.trans (hM.b.mono (by simp))
    have k1 := k0.below hM.b k0.lt
    rw [← HGS.out] at hM ⊢
    obtain ⟨l, hl⟩ : ∃ l, l = gs.length := ⟨_, rfl⟩
    rw [← hl] at hM hl7 ⊢
    have HL := Lib.hid hl
    clear hl k0 hB0
    go_wp2_with fail
    go_loop [5, 8, 15] (fun o _ i => ∃ k : Nat, k ≤ l ∧ i = .int .i64 k ∧ o = .int .i64 ((cntO (gs.take k) : Nat) : Int)) (fun _ _ i => l - (intOf i).toNat)
    case atStart => exact ⟨0, by omega, rfl, rfl⟩
    case round =>
      obtain ⟨k, hk, rfl, rfl⟩ := hrel
      by_cases hlt : k < l
      · obtain ⟨g, o, rfl, hxk, hcx'⟩ := hM.rd.int hlt
        obtain ⟨r1, r2⟩ := hrg _ (List.getElem_mem hxk)
        have HC := Lib.hid (cntO_take hxk r1)
        have hcl := cntO_le (gs.take k)
        have hcl2 : (gs.take k).length ≤ k := List.length_take_le _ _
        obtain ⟨q, hq⟩ : ∃ q, q = cntO (gs.take k) := ⟨_, rfl⟩
        rw [← hq] at hcl ⊢
        have HQ := Lib.hid hq
        clear hq
        go_wp2
        go_round
        case rel => exact ⟨k + 1, by omega, by go_num, by rw [HC.out, HQ.out]⟩
        case measure => simp [intOf]; omega
      · obtain rfl : k = l := by omega
        have e0 : gs.take k = gs := List.take_of_length_le (by rw [← HL.out]; omega)
        rw [e0]
        clear e0
        have hw' : w1 = w1 := rfl
        have k2 := k1
        have hB2 := hB1
        clear k1 hB1
        try rw [← HL.out] at c2
        go_wp2
        refine wp_obs 25 [[], [], [0, 1], [0, 1, 2], [0, 1, 2, 3], [0, 1, 2, 3, 4], [0, 1, 2, 3, 4], [0, 1, 2, 3, 4], [0, 1, 2, 3, 4], [0, 1, 2, 3, 4, 7, 8], [0, 1, 2, 3, 4, 6, 7, 8, 9], [0, 1, 2, 3, 4, 5, 6, 7, 8, 9, 10], [0, 1, 2, 3, 4, 5, 6, 7, 8, 9, 10, 11], [0, 1, 2, 3, 4, 5, 6, 7, 8, 9, 10, 11, 12], [0, 1, 2, 3, 4, 5, 6, 7, 8, 9, 10, 11, 12, 13], [0, 1, 2, 3, 4, 5, 6, 7, 8, 9, 10, 11, 12, 13, 14], [0, 1, 2, 3, 4, 5, 6, 7, 8, 9, 10, 11, 12, 13, 14, 15], [0, 1, 2, 3, 4, 5, 6, 7, 8, 9, 10, 11, 12, 13, 14, 15, 16], [0, 1, 2, 3, 4, 5, 6, 7, 8, 9, 10, 11, 12, 13, 14, 15, 16, 17], [0, 1, 2, 3, 4, 5, 6, 7, 8, 9, 10, 11, 12, 13, 14, 15, 16, 17, 18], [0, 1, 2, 3, 4, 5, 6, 7, 8, 9, 10, 11, 12, 13, 14, 15, 16, 17, 18], [0, 1, 2, 3, 4, 5, 6, 7, 8, 9, 10, 11, 12, 13, 14, 15, 16, 17, 18, 20], [0, 1, 2, 3, 4, 5, 6, 7, 8, 9, 10, 11, 12, 13, 14, 15, 16, 17, 18, 19, 20, 21], [0, 1, 2, 3, 4, 5, 6, 7, 8, 9, 10, 11, 12, 13, 14, 15, 16, 17, 18, 19, 20, 21, 22], [0, 1, 2, 3, 4, 5, 6, 7, 8, 9, 10, 11, 12, 13, 14, 15, 16, 17, 18, 19, 20, 21, 22, 23]] [VIs (.agg #[.int .i64 P, .slice A n c]), VIs (.slice X (pw n) cx), VIs (.int .i64 (nrmL P sq xs)), VIs (.bool false), VIs (.bool false), VIs (.agg #[.int .i64 P, .slice A n c]), VIs (.slice X (pw n) cx), VIs (.agg #[.int .i64 P, .slice A n c]), VIs (.slice X (pw n) cx), VSl w (pw n) (revL P xs), VRow 2 [xs, (revL P xs)], VSl w (pw n) (timesL P sq n [xs, (revL P xs)]), VIs (.bool true), VIs (.bool false), VIs (.bool false), VIs (.bool false), VIs (.int .i64 ((cntO gs : Nat) : Int)), VIs (.bool true), VIs (.bool true), VIs (.int .i64 ((cntO gs : Nat) : Int)), VIs (.slice A' k c'), VIs (.int .i64 ((k : Nat) : Int)), VIs (.bool true), VIs (.bool true), VIs (.bool true)] (fun w' => Blk w' w.heap.size 26 #[.int .i64 P, .slice A n c] ∧ Below w.heap.size w w') (by kernel_rfl) (by kernel_rfl) (fun _ _ h hb => ⟨h.1.below hb h.1.lt, h.2.trans (hb.mono h.2.size)⟩) (⟨k2.drew, hB2.drew⟩) (fun x => ?_)
        refine obs_step (Eq.trans (by simp only [zA, zC]; exact rfl) rfl) rfl (fun w' hS hV K hK => ?_) ?_
        · obtain ⟨q0, q1⟩ := hS.1.two
          go_simp
          exact hK.out _ _ _ rfl rfl rfl (Below.refl _ _)
        simp only [zD, zE, zF]
        refine obs_step (Eq.trans (by simp only [zA, zB, zC]; exact rfl) rfl) rfl (fun w' hS hV K hK => ?_) ?_
        · obtain ⟨q0, q1⟩ := hS.1.two
          go_simp
          exact hK.out _ _ _ rfl rfl rfl (Below.refl _ _)
        simp only [zD, zE, zF]
        refine obs_step (Eq.trans (by simp only [zA, zB, zC]; exact rfl) rfl) rfl (fun w' hS hV K hK => ?_) ?_
        · simp only [List.mem_cons, List.not_mem_nil, or_false, forall_eq_or_imp, forall_eq, List.getD_cons_succ, List.getD_cons_zero, VIs, VSl, VRow, VAny] at hV
          obtain ⟨e0, e1⟩ := hV
          obtain ⟨q0, q1⟩ := hS.1.two
          go_simp
          refine (spinorNorm_any P A n c sq _ _ xs _ hp hp2 hn (ha.below hS.2) hs (hx.below hS.2) hxs hcx).mono ?_
          rintro e w1 ⟨rfl, hb⟩
          exact hK.out _ _ _ rfl rfl rfl hb
        simp only [zD, zE, zF]
        refine obs_step (Eq.trans (by simp only [zA, zB, zC]; exact rfl) rfl) rfl (fun w' hS hV K hK => ?_) ?_
        · simp only [List.mem_cons, List.not_mem_nil, or_false, forall_eq_or_imp, forall_eq, List.getD_cons_succ, List.getD_cons_zero, VIs, VSl, VRow, VAny] at hV
          obtain ⟨e0, e1, e2⟩ := hV
          obtain ⟨q0, q1⟩ := hS.1.two
          go_simp
          exact hK.out _ _ _ rfl rfl rfl (Below.refl _ _)
        simp only [zD, zE, zF]
        refine obs_step (Eq.trans (by simp only [zA, zB, zC]; exact rfl) rfl) rfl (fun w' hS hV K hK => ?_) ?_
        · simp only [List.mem_cons, List.not_mem_nil, or_false, forall_eq_or_imp, forall_eq, List.getD_cons_succ, List.getD_cons_zero, VIs, VSl, VRow, VAny] at hV
          obtain ⟨e0, e1, e2, e3⟩ := hV
          obtain ⟨q0, q1⟩ := hS.1.two
          go_simp
          exact hK.out _ _ _ rfl rfl rfl (Below.refl _ _)
        simp only [zD, zE, zF]
        refine obs_step (Eq.trans (by simp only [zA, zB, zC]; exact rfl) rfl) rfl (fun w' hS hV K hK => ?_) ?_
        · simp only [List.mem_cons, List.not_mem_nil, or_false, forall_eq_or_imp, forall_eq, List.getD_cons_succ, List.getD_cons_zero, VIs, VSl, VRow, VAny] at hV
          obtain ⟨e0, e1, e2, e3, e4⟩ := hV
          obtain ⟨q0, q1⟩ := hS.1.two
          go_simp
          exact hK.out _ _ _ rfl rfl rfl (Below.refl _ _)
        simp only [zD, zE, zF]
        refine obs_step (Eq.trans (by simp only [zA, zB, zC]; exact rfl) rfl) rfl (fun w' hS hV K hK => ?_) ?_
        · simp only [List.mem_cons, List.not_mem_nil, or_false, forall_eq_or_imp, forall_eq, List.getD_cons_succ, List.getD_cons_zero, VIs, VSl, VRow, VAny] at hV
          obtain ⟨e0, e1, e2, e3, e4⟩ := hV
          obtain ⟨q0, q1⟩ := hS.1.two
          go_simp
          exact hK.out _ _ _ rfl rfl rfl (Below.refl _ _)
        simp only [zD, zE, zF]
        refine obs_step (Eq.trans (by simp only [zA, zB, zC]; exact rfl) rfl) rfl (fun w' hS hV K hK => ?_) ?_
        · simp only [List.mem_cons, List.not_mem_nil, or_false, forall_eq_or_imp, forall_eq, List.getD_cons_succ, List.getD_cons_zero, VIs, VSl, VRow, VAny] at hV
          obtain ⟨e0, e1, e2, e3, e4⟩ := hV
          obtain ⟨q0, q1⟩ := hS.1.two
          go_simp
          exact hK.out _ _ _ rfl rfl rfl (Below.refl _ _)
        simp only [zD, zE, zF]
        refine obs_step (Eq.trans (by simp only [zA, zB, zC]; exact rfl) rfl) rfl (fun w' hS hV K hK => ?_) ?_
        · simp only [List.mem_cons, List.not_mem_nil, or_false, forall_eq_or_imp, forall_eq, List.getD_cons_succ, List.getD_cons_zero, VIs, VSl, VRow, VAny] at hV
          obtain ⟨e0, e1, e2, e3, e4⟩ := hV
          obtain ⟨q0, q1⟩ := hS.1.two
          go_simp
          exact hK.out _ _ _ rfl rfl rfl (Below.refl _ _)
        simp only [zD, zE, zF]
        refine obs_step (Eq.trans (by simp only [zA, zB, zC]; exact rfl) rfl) rfl (fun w' hS hV K hK => ?_) ?_
        · simp only [List.mem_cons, List.not_mem_nil, or_false, forall_eq_or_imp, forall_eq, List.getD_cons_succ, List.getD_cons_zero, VIs, VSl, VRow, VAny] at hV
          obtain ⟨e0, e1, e2, e3, e4, e7, e8⟩ := hV
          obtain ⟨q0, q1⟩ := hS.1.two
          go_simp
          refine (reverse_any P A n c _ (pw n) _ xs _ hp hp2 HPW64 (hx.below hS.2) hxs).mono ?_
          rintro e w1 ⟨A2, c2, rfl, hM⟩
          exact hK.out _ _ _ rfl rfl ⟨_, _, rfl, hM.after hS.2⟩ hM.b
        simp only [zD, zE, zF]
        refine obs_step (Eq.trans (by simp only [zA, zB, zC]; exact rfl) rfl) rfl (fun w' hS hV K hK => ?_) ?_
        · simp only [List.mem_cons, List.not_mem_nil, or_false, forall_eq_or_imp, forall_eq, List.getD_cons_succ, List.getD_cons_zero, VIs, VSl, VRow, VAny] at hV
          obtain ⟨e0, e1, e2, e3, e4, e6, e7, e8, ⟨A9, c9, e9, h9⟩⟩ := hV
          obtain ⟨q0, q1⟩ := hS.1.two
          go_simp
          exact hK.out _ _ _ rfl rfl ⟨_, _, rfl, rdII_two (Blk.new _ _ _) (Rd.below ((hx.below hS.2)) ((Below.refl _ _).alloc (Nat.le_refl _) _)) (Rd.below (h9.rd) ((Below.refl _ _).alloc (Nat.le_refl _) _)) (hcx) (h9.2.cap)⟩ ((Below.refl _ _).alloc (Nat.le_refl _) _)
        simp only [zD, zE, zF]
        refine obs_step (Eq.trans (by simp only [zA, zB, zC]; exact rfl) rfl) rfl (fun w' hS hV K hK => ?_) ?_
        · simp only [List.mem_cons, List.not_mem_nil, or_false, forall_eq_or_imp, forall_eq, List.getD_cons_succ, List.getD_cons_zero, VIs, VSl, VRow, VAny] at hV
          obtain ⟨e0, e1, e2, e3, e4, e5, e6, e7, e8, ⟨A9, c9, e9, h9⟩, ⟨A10, c10, e10, h10⟩⟩ := hV
          obtain ⟨q0, q1⟩ := hS.1.two
          go_simp
          refine (times_any P A n c sq _ 2 _ [xs, (revL P xs)] _ hp hp2 hn (by omega) (ha.below hS.2) hs h10 (all_two ⟨hxs, Rd.lenI ((hx.below hS.2))⟩ ⟨(sgnL_nums (by omega) revT hxs), Rd.lenI (h9.rd)⟩)).mono ?_
          rintro e w1 ⟨A2, c2, rfl, hM⟩
          exact hK.out _ _ _ rfl rfl ⟨_, _, rfl, hM.after hS.2⟩ hM.b
        simp only [zD, zE, zF]
        refine obs_step (Eq.trans (by simp only [zA, zB, zC]; exact rfl) rfl) rfl (fun w' hS hV K hK => ?_) ?_
        · simp only [List.mem_cons, List.not_mem_nil, or_false, forall_eq_or_imp, forall_eq, List.getD_cons_succ, List.getD_cons_zero, VIs, VSl, VRow, VAny] at hV
          obtain ⟨e0, e1, e2, e3, e4, e5, e6, e7, e8, ⟨A9, c9, e9, h9⟩, ⟨A10, c10, e10, h10⟩, ⟨A11, c11, e11, h11⟩⟩ := hV
          obtain ⟨q0, q1⟩ := hS.1.two
          go_simp
          refine (onlyGrade_b _ _ _ _ _ _ HPW64 h11.rd HO.out).mono ?_
          rintro e w1 ⟨rfl, hb⟩
          exact hK.out _ _ _ rfl rfl rfl hb
        simp only [zD, zE, zF]
        refine obs_step (Eq.trans (by simp only [zA, zB, zC]; exact rfl) rfl) rfl (fun w' hS hV K hK => ?_) ?_
        · simp only [List.mem_cons, List.not_mem_nil, or_false, forall_eq_or_imp, forall_eq, List.getD_cons_succ, List.getD_cons_zero, VIs, VSl, VRow, VAny] at hV
          obtain ⟨e0, e1, e2, e3, e4, e5, e6, e7, e8, ⟨A9, c9, e9, h9⟩, ⟨A10, c10, e10, h10⟩, ⟨A11, c11, e11, h11⟩, e12⟩ := hV
          obtain ⟨q0, q1⟩ := hS.1.two
          go_simp
          exact hK.out _ _ _ rfl rfl rfl (Below.refl _ _)
        simp only [zD, zE, zF]
        refine obs_step (Eq.trans (by simp only [zA, zB, zC]; exact rfl) rfl) rfl (fun w' hS hV K hK => ?_) ?_
        · simp only [List.mem_cons, List.not_mem_nil, or_false, forall_eq_or_imp, forall_eq, List.getD_cons_succ, List.getD_cons_zero, VIs, VSl, VRow, VAny] at hV
          obtain ⟨e0, e1, e2, e3, e4, e5, e6, e7, e8, ⟨A9, c9, e9, h9⟩, ⟨A10, c10, e10, h10⟩, ⟨A11, c11, e11, h11⟩, e12, e13⟩ := hV
          obtain ⟨q0, q1⟩ := hS.1.two
          go_simp
          exact hK.out _ _ _ rfl rfl rfl (Below.refl _ _)
        simp only [zD, zE, zF]
        refine obs_step (Eq.trans (by simp only [zA, zB, zC]; exact rfl) rfl) rfl (fun w' hS hV K hK => ?_) ?_
        · simp only [List.mem_cons, List.not_mem_nil, or_false, forall_eq_or_imp, forall_eq, List.getD_cons_succ, List.getD_cons_zero, VIs, VSl, VRow, VAny] at hV
          obtain ⟨e0, e1, e2, e3, e4, e5, e6, e7, e8, ⟨A9, c9, e9, h9⟩, ⟨A10, c10, e10, h10⟩, ⟨A11, c11, e11, h11⟩, e12, e13, e14⟩ := hV
          obtain ⟨q0, q1⟩ := hS.1.two
          go_simp
          exact hK.out _ _ _ rfl rfl rfl (Below.refl _ _)
        simp only [zD, zE, zF]
        refine obs_step (Eq.trans (by simp only [zA, zB, zC]; exact rfl) rfl) rfl (fun w' hS hV K hK => ?_) ?_
        · simp only [List.mem_cons, List.not_mem_nil, or_false, forall_eq_or_imp, forall_eq, List.getD_cons_succ, List.getD_cons_zero, VIs, VSl, VRow, VAny] at hV
          obtain ⟨e0, e1, e2, e3, e4, e5, e6, e7, e8, ⟨A9, c9, e9, h9⟩, ⟨A10, c10, e10, h10⟩, ⟨A11, c11, e11, h11⟩, e12, e13, e14, e15⟩ := hV
          obtain ⟨q0, q1⟩ := hS.1.two
          go_simp
          exact hK.out _ _ _ rfl rfl rfl (Below.refl _ _)
        simp only [zD, zE, zF]
        refine obs_step (Eq.trans (by simp only [zA, zB, zC]; exact rfl) rfl) rfl (fun w' hS hV K hK => ?_) ?_
        · simp only [List.mem_cons, List.not_mem_nil, or_false, forall_eq_or_imp, forall_eq, List.getD_cons_succ, List.getD_cons_zero, VIs, VSl, VRow, VAny] at hV
          obtain ⟨e0, e1, e2, e3, e4, e5, e6, e7, e8, ⟨A9, c9, e9, h9⟩, ⟨A10, c10, e10, h10⟩, ⟨A11, c11, e11, h11⟩, e12, e13, e14, e15, e16⟩ := hV
          obtain ⟨q0, q1⟩ := hS.1.two
          go_simp
          exact hK.out _ _ _ rfl rfl rfl (Below.refl _ _)
        simp only [zD, zE, zF]
        refine obs_step (Eq.trans (by simp only [zA, zB, zC]; exact rfl) rfl) rfl (fun w' hS hV K hK => ?_) ?_
        · simp only [List.mem_cons, List.not_mem_nil, or_false, forall_eq_or_imp, forall_eq, List.getD_cons_succ, List.getD_cons_zero, VIs, VSl, VRow, VAny] at hV
          obtain ⟨e0, e1, e2, e3, e4, e5, e6, e7, e8, ⟨A9, c9, e9, h9⟩, ⟨A10, c10, e10, h10⟩, ⟨A11, c11, e11, h11⟩, e12, e13, e14, e15, e16, e17⟩ := hV
          obtain ⟨q0, q1⟩ := hS.1.two
          go_simp
          exact hK.out _ _ _ rfl rfl rfl (Below.refl _ _)
        simp only [zD, zE, zF]
        refine obs_step (Eq.trans (by simp only [zA, zB, zC]; exact rfl) rfl) rfl (fun w' hS hV K hK => ?_) ?_
        · simp only [List.mem_cons, List.not_mem_nil, or_false, forall_eq_or_imp, forall_eq, List.getD_cons_succ, List.getD_cons_zero, VIs, VSl, VRow, VAny] at hV
          obtain ⟨e0, e1, e2, e3, e4, e5, e6, e7, e8, ⟨A9, c9, e9, h9⟩, ⟨A10, c10, e10, h10⟩, ⟨A11, c11, e11, h11⟩, e12, e13, e14, e15, e16, e17, e18⟩ := hV
          obtain ⟨q0, q1⟩ := hS.1.two
          go_simp
          exact hK.out _ _ _ rfl rfl rfl (Below.refl _ _)
        simp only [zD, zE, zF]
        refine obs_step (Eq.trans (by simp only [zA, zB, zC]; exact rfl) rfl) rfl (fun w' hS hV K hK => ?_) ?_
        · simp only [List.mem_cons, List.not_mem_nil, or_false, forall_eq_or_imp, forall_eq, List.getD_cons_succ, List.getD_cons_zero, VIs, VSl, VRow, VAny] at hV
          obtain ⟨e0, e1, e2, e3, e4, e5, e6, e7, e8, ⟨A9, c9, e9, h9⟩, ⟨A10, c10, e10, h10⟩, ⟨A11, c11, e11, h11⟩, e12, e13, e14, e15, e16, e17, e18⟩ := hV
          obtain ⟨q0, q1⟩ := hS.1.two
          go_simp
          exact hK.out _ _ _ rfl rfl rfl (Below.refl _ _)
        simp only [zD, zE, zF]
        refine obs_step (Eq.trans (by simp only [zA, zB, zC]; exact rfl) rfl) rfl (fun w' hS hV K hK => ?_) ?_
        · simp only [List.mem_cons, List.not_mem_nil, or_false, forall_eq_or_imp, forall_eq, List.getD_cons_succ, List.getD_cons_zero, VIs, VSl, VRow, VAny] at hV
          obtain ⟨e0, e1, e2, e3, e4, e5, e6, e7, e8, ⟨A9, c9, e9, h9⟩, ⟨A10, c10, e10, h10⟩, ⟨A11, c11, e11, h11⟩, e12, e13, e14, e15, e16, e17, e18, e20⟩ := hV
          obtain ⟨q0, q1⟩ := hS.1.two
          go_simp
          exact hK.out _ _ _ rfl rfl rfl (Below.refl _ _)
        simp only [zD, zE, zF]
        refine obs_step (Eq.trans (by simp only [zA, zB, zC]; exact rfl) rfl) rfl (fun w' hS hV K hK => ?_) ?_
        · simp only [List.mem_cons, List.not_mem_nil, or_false, forall_eq_or_imp, forall_eq, List.getD_cons_succ, List.getD_cons_zero, VIs, VSl, VRow, VAny] at hV
          obtain ⟨e0, e1, e2, e3, e4, e5, e6, e7, e8, ⟨A9, c9, e9, h9⟩, ⟨A10, c10, e10, h10⟩, ⟨A11, c11, e11, h11⟩, e12, e13, e14, e15, e16, e17, e18, e19, e20, e21⟩ := hV
          obtain ⟨q0, q1⟩ := hS.1.two
          go_simp
          exact hK.out _ _ _ rfl rfl rfl (Below.refl _ _)
        simp only [zD, zE, zF]
        refine obs_step (Eq.trans (by simp only [zA, zB, zC]; exact rfl) rfl) rfl (fun w' hS hV K hK => ?_) ?_
        · simp only [List.mem_cons, List.not_mem_nil, or_false, forall_eq_or_imp, forall_eq, List.getD_cons_succ, List.getD_cons_zero, VIs, VSl, VRow, VAny] at hV
          obtain ⟨e0, e1, e2, e3, e4, e5, e6, e7, e8, ⟨A9, c9, e9, h9⟩, ⟨A10, c10, e10, h10⟩, ⟨A11, c11, e11, h11⟩, e12, e13, e14, e15, e16, e17, e18, e19, e20, e21, e22⟩ := hV
          obtain ⟨q0, q1⟩ := hS.1.two
          go_simp
          exact hK.out _ _ _ rfl rfl rfl (Below.refl _ _)
        simp only [zD, zE, zF]
        refine obs_step (Eq.trans (by simp only [zA, zB, zC]; exact rfl) rfl) rfl (fun w' hS hV K hK => ?_) ?_
        · simp only [List.mem_cons, List.not_mem_nil, or_false, forall_eq_or_imp, forall_eq, List.getD_cons_succ, List.getD_cons_zero, VIs, VSl, VRow, VAny] at hV
          obtain ⟨e0, e1, e2, e3, e4, e5, e6, e7, e8, ⟨A9, c9, e9, h9⟩, ⟨A10, c10, e10, h10⟩, ⟨A11, c11, e11, h11⟩, e12, e13, e14, e15, e16, e17, e18, e19, e20, e21, e22, e23⟩ := hV
          obtain ⟨q0, q1⟩ := hS.1.two
          go_simp
          exact hK.out _ _ _ rfl rfl rfl (Below.refl _ _)
        simp only [zD, zE, zF]
        refine fun w' hS hV => ?_
        have hV := fun i hi => hV i (List.mem_range.1 hi)
        simp only [List.range, List.range.loop, List.mem_cons, List.not_mem_nil, or_false, forall_eq_or_imp, forall_eq, List.getD_cons_succ, List.getD_cons_zero, VIs, VSl, VRow, VAny] at hV
        obtain ⟨e0, e1, e2, e3, e4, e5, e6, e7, e8, ⟨A9, c9, e9, h9⟩, ⟨A10, c10, e10, h10⟩, ⟨A11, c11, e11, h11⟩, e12, e13, e14, e15, e16, e17, e18, e19, e20, e21, e22, e23, e24⟩ := hV
        simp only [e0, e1, e2, e3, e4, e5, e6, e7, e8, e9, e10, e11, e12, e13, e14, e15, e16, e17, e18, e19, e20, e21, e22, e23, e24]
        clear e0 e1 e2 e3 e4 e5 e6 e7 e8 e9 e10 e11 e12 e13 e14 e15 e16 e17 e18 e19 e20 e21 e22 e23 e24
        refine wpAny_done (by kernel_rfl) ?_ _
        go_wp2
        go_ret
        exact ⟨ret_bool (by unfold versB; rw [H1.out, H2.out, H3.out]; rfl), hS.2⟩
set_option maxHeartbeats 3200000 in
set_option maxRecDepth 8000 in
theorem isVersor_D (P : Int) (A : Option Addr) (n c : Nat) (sq : List Int) (X : Option Addr) (cx : Nat) (xs : List Int) (w : World) (hp : 2 ≤ P) (hp2 : P ≤ 13) (hn : n ≤ 6) (ha : Rd w A n (ints sq)) (hs : NumsL P sq) (hx : Rd w X (pw n) (ints xs)) (hxs : NumsL P xs) (hcx : pw n ≤ cx) (h1 : ¬ nrmL P sq xs = 0) (h2 : onlyL (mulL P sq xs (revL P xs)) 0 = true) (h3 : mixB (gradesL xs) = false) (h4 : cntO (gradesL xs) = 0) :
    Calls Tryz.prog 160 #[.agg #[.int .i64 P, .slice A n c], .slice X (pw n) cx] w fun e w' => e = .returned (.bool (versB P sq n xs)) ∧ Below w.heap.size w w' := by
  have hB0 : Below w.heap.size w (w.alloc (.cells #[.int .i64 P, .slice A n c] 26)) := (Below.refl _ _).alloc (Nat.le_refl _) _
  have k0 : Blk (w.alloc (.cells #[.int .i64 P, .slice A n c] 26)) w.heap.size 26 #[.int .i64 P, .slice A n c] := Blk.new _ _ _
  have HPW : pw n ≤ 65536 := Nat.le_trans (pw_le (show n ≤ 10 by omega)) (by decide)
  have HPW64 : pw n ≤ 64 := pw_le hn
  have hl7 := gradesL_len xs
  have hrg := gradesL_range xs
  have HT2 : Hid (timesL P sq n [xs, revL P xs] = mulL P sq xs (revL P xs)) := Lib.hid (timesL_two P sq n _ _ hx.lenI hxs)
  obtain ⟨gs, hgs⟩ : ∃ gs, gs = gradesL xs := ⟨_, rfl⟩
  have HGS := Lib.hid hgs
  rw [← hgs] at hl7 hrg
  have HMC : Hid (mixB gs = (((cntO gs : Nat) : Int) != 0 && ((cntO gs : Nat) : Int) != ((gs.length : Nat) : Int))) := Lib.hid (mix_cnt fun g hg => (hrg g hg).1)
  clear hgs
  have b1 : (nrmL P sq xs == 0) = false := by simp [h1]
  have H1 := Lib.hid b1
  have H2 := Lib.hid h2
  have HO : Hid (onlyL (timesL P sq n [xs, revL P xs]) 0 = true) := Lib.hid (by rw [HT2.out]; exact h2)
  have H3 := Lib.hid h3
  have c1 : (((cntO gs : Nat) : Int) != 0) = false := by rw [HGS.out, h4]; rfl
  clear h4
  clear h1 h2 h3
  · skip
    go_enter Tryz.func160, Tryz.ntmps160
    go_wp2_with fail
    refine (gradesOf_any X (pw n) cx xs _ HPW64 (hx.below hB0)).mono ?_
    rintro e w1 ⟨A', c', rfl, hM⟩
    have hB1 := hB0.trans (hM.b.mono (by simp))
    have k1 := k0.below hM.b k0.lt
    rw [← HGS.out] at hM ⊢
    obtain ⟨l, hl⟩ : ∃ l, l = gs.length := ⟨_, rfl⟩
    rw [← hl] at hM hl7 ⊢
    have HL := Lib.hid hl
    clear hl k0 hB0
    go_wp2_with fail
    go_loop [5, 8, 15] (fun o _ i => ∃ k : Nat, k ≤ l ∧ i = .int .i64 k ∧ o = .int .i64 ((cntO (gs.take k) : Nat) : Int)) (fun _ _ i => l - (intOf i).toNat)
    case atStart => exact ⟨0, by omega, rfl, rfl⟩
    case round =>
      obtain ⟨k, hk, rfl, rfl⟩ := hrel
      by_cases hlt : k < l
      · obtain ⟨g, o, rfl, hxk, hcx'⟩ := hM.rd.int hlt
        obtain ⟨r1, r2⟩ := hrg _ (List.getElem_mem hxk)
        have HC := Lib.hid (cntO_take hxk r1)
        have hcl := cntO_le (gs.take k)
        have hcl2 : (gs.take k).length ≤ k := List.length_take_le _ _
        obtain ⟨q, hq⟩ : ∃ q, q = cntO (gs.take k) := ⟨_, rfl⟩
        rw [← hq] at hcl ⊢
        have HQ := Lib.hid hq
        clear hq
        go_wp2
        go_round
        case rel => exact ⟨k + 1, by omega, by go_num, by rw [HC.out, HQ.out]⟩
        case measure => simp [intOf]; omega
      · obtain rfl : k = l := by omega
        have e0 : gs.take k = gs := List.take_of_length_le (by rw [← HL.out]; omega)
        rw [e0]
        clear e0
        have hw' : w1 = w1 := rfl
        have k2 := k1
        have hB2 := hB1
        clear k1 hB1
        try rw [← HL.out] at c2
        go_wp2
        refine wp_obs 25 [[], [], [0, 1], [0, 1, 2], [0, 1, 2, 3], [0, 1, 2, 3, 4], [0, 1, 2, 3, 4], [0, 1, 2, 3, 4], [0, 1, 2, 3, 4], [0, 1, 2, 3, 4, 7, 8], [0, 1, 2, 3, 4, 6, 7, 8, 9], [0, 1, 2, 3, 4, 5, 6, 7, 8, 9, 10], [0, 1, 2, 3, 4, 5, 6, 7, 8, 9, 10, 11], [0, 1, 2, 3, 4, 5, 6, 7, 8, 9, 10, 11, 12], [0, 1, 2, 3, 4, 5, 6, 7, 8, 9, 10, 11, 12, 13], [0, 1, 2, 3, 4, 5, 6, 7, 8, 9, 10, 11, 12, 13, 14], [0, 1, 2, 3, 4, 5, 6, 7, 8, 9, 10, 11, 12, 13, 14, 15], [0, 1, 2, 3, 4, 5, 6, 7, 8, 9, 10, 11, 12, 13, 14, 15, 16], [0, 1, 2, 3, 4, 5, 6, 7, 8, 9, 10, 11, 12, 13, 14, 15, 16, 17], [0, 1, 2, 3, 4, 5, 6, 7, 8, 9, 10, 11, 12, 13, 14, 15, 16, 17, 18], [0, 1, 2, 3, 4, 5, 6, 7, 8, 9, 10, 11, 12, 13, 14, 15, 16, 17, 18], [0, 1, 2, 3, 4, 5, 6, 7, 8, 9, 10, 11, 12, 13, 14, 15, 16, 17, 18, 20], [0, 1, 2, 3, 4, 5, 6, 7, 8, 9, 10, 11, 12, 13, 14, 15, 16, 17, 18, 19, 20, 21], [0, 1, 2, 3, 4, 5, 6, 7, 8, 9, 10, 11, 12, 13, 14, 15, 16, 17, 18, 19, 20, 21, 22], [0, 1, 2, 3, 4, 5, 6, 7, 8, 9, 10, 11, 12, 13, 14, 15, 16, 17, 18, 19, 20, 21, 22, 23]] [VIs (.agg #[.int .i64 P, .slice A n c]), VIs (.slice X (pw n) cx), VIs (.int .i64 (nrmL P sq xs)), VIs (.bool false), VIs (.bool false), VIs (.agg #[.int .i64 P, .slice A n c]), VIs (.slice X (pw n) cx), VIs (.agg #[.int .i64 P, .slice A n c]), VIs (.slice X (pw n) cx), VSl w (pw n) (revL P xs), VRow 2 [xs, (revL P xs)], VSl w (pw n) (timesL P sq n [xs, (revL P xs)]), VIs (.bool true), VIs (.bool false), VIs (.bool false), VIs (.bool false), VIs (.int .i64 ((cntO gs : Nat) : Int)), VIs (.bool false), VIs (.bool false), VIs undef, VIs undef, VIs undef, VIs undef, VIs (.bool false), VIs (.bool false)] (fun w' => Blk w' w.heap.size 26 #[.int .i64 P, .slice A n c] ∧ Below w.heap.size w w') (by kernel_rfl) (by kernel_rfl) (fun _ _ h hb => ⟨h.1.below hb h.1.lt, h.2.trans (hb.mono h.2.size)⟩) (⟨k2.drew, hB2.drew⟩) (fun x => ?_)
        refine obs_step (Eq.trans (by simp only [zA, zC]; exact rfl) rfl) rfl (fun w' hS hV K hK => ?_) ?_
        · obtain ⟨q0, q1⟩ := hS.1.two
          go_simp
          exact hK.out _ _ _ rfl rfl rfl (Below.refl _ _)
        simp only [zD, zE, zF]
        refine obs_step (Eq.trans (by simp only [zA, zB, zC]; exact rfl) rfl) rfl (fun w' hS hV K hK => ?_) ?_
        · obtain ⟨q0, q1⟩ := hS.1.two
          go_simp
          exact hK.out _ _ _ rfl rfl rfl (Below.refl _ _)
        simp only [zD, zE, zF]
        refine obs_step (Eq.trans (by simp only [zA, zB, zC]; exact rfl) rfl) rfl (fun w' hS hV K hK => ?_) ?_
        · simp only [List.mem_cons, List.not_mem_nil, or_false, forall_eq_or_imp, forall_eq, List.getD_cons_succ, List.getD_cons_zero, VIs, VSl, VRow, VAny] at hV
          obtain ⟨e0, e1⟩ := hV
          obtain ⟨q0, q1⟩ := hS.1.two
          go_simp
          refine (spinorNorm_any P A n c sq _ _ xs _ hp hp2 hn (ha.below hS.2) hs (hx.below hS.2) hxs hcx).mono ?_
          rintro e w1 ⟨rfl, hb⟩
          exact hK.out _ _ _ rfl rfl rfl hb
        simp only [zD, zE, zF]
        refine obs_step (Eq.trans (by simp only [zA, zB, zC]; exact rfl) rfl) rfl (fun w' hS hV K hK => ?_) ?_
        · simp only [List.mem_cons, List.not_mem_nil, or_false, forall_eq_or_imp, forall_eq, List.getD_cons_succ, List.getD_cons_zero, VIs, VSl, VRow, VAny] at hV
          obtain ⟨e0, e1, e2⟩ := hV
          obtain ⟨q0, q1⟩ := hS.1.two
          go_simp
          exact hK.out _ _ _ rfl rfl rfl (Below.refl _ _)
        simp only [zD, zE, zF]
        refine obs_step (Eq.trans (by simp only [zA, zB, zC]; exact rfl) rfl) rfl (fun w' hS hV K hK => ?_) ?_
        · simp only [List.mem_cons, List.not_mem_nil, or_false, forall_eq_or_imp, forall_eq, List.getD_cons_succ, List.getD_cons_zero, VIs, VSl, VRow, VAny] at hV
          obtain ⟨e0, e1, e2, e3⟩ := hV
          obtain ⟨q0, q1⟩ := hS.1.two
          go_simp
          exact hK.out _ _ _ rfl rfl rfl (Below.refl _ _)
        simp only [zD, zE, zF]
        refine obs_step (Eq.trans (by simp only [zA, zB, zC]; exact rfl) rfl) rfl (fun w' hS hV K hK => ?_) ?_
        · simp only [List.mem_cons, List.not_mem_nil, or_false, forall_eq_or_imp, forall_eq, List.getD_cons_succ, List.getD_cons_zero, VIs, VSl, VRow, VAny] at hV
          obtain ⟨e0, e1, e2, e3, e4⟩ := hV
          obtain ⟨q0, q1⟩ := hS.1.two
          go_simp
          exact hK.out _ _ _ rfl rfl rfl (Below.refl _ _)
        simp only [zD, zE, zF]
        refine obs_step (Eq.trans (by simp only [zA, zB, zC]; exact rfl) rfl) rfl (fun w' hS hV K hK => ?_) ?_
        · simp only [List.mem_cons, List.not_mem_nil, or_false, forall_eq_or_imp, forall_eq, List.getD_cons_succ, List.getD_cons_zero, VIs, VSl, VRow, VAny] at hV
          obtain ⟨e0, e1, e2, e3, e4⟩ := hV
          obtain ⟨q0, q1⟩ := hS.1.two
          go_simp
          exact hK.out _ _ _ rfl rfl rfl (Below.refl _ _)
        simp only [zD, zE, zF]
        refine obs_step (Eq.trans (by simp only [zA, zB, zC]; exact rfl) rfl) rfl (fun w' hS hV K hK => ?_) ?_
        · simp only [List.mem_cons, List.not_mem_nil, or_false, forall_eq_or_imp, forall_eq, List.getD_cons_succ, List.getD_cons_zero, VIs, VSl, VRow, VAny] at hV
          obtain ⟨e0, e1, e2, e3, e4⟩ := hV
          obtain ⟨q0, q1⟩ := hS.1.two
          go_simp
          exact hK.out _ _ _ rfl rfl rfl (Below.refl _ _)
        simp only [zD, zE, zF]
        refine obs_step (Eq.trans (by simp only [zA, zB, zC]; exact rfl) rfl) rfl (fun w' hS hV K hK => ?_) ?_
        · simp only [List.mem_cons, List.not_mem_nil, or_false, forall_eq_or_imp, forall_eq, List.getD_cons_succ, List.getD_cons_zero, VIs, VSl, VRow, VAny] at hV
          obtain ⟨e0, e1, e2, e3, e4⟩ := hV
          obtain ⟨q0, q1⟩ := hS.1.two
          go_simp
          exact hK.out _ _ _ rfl rfl rfl (Below.refl _ _)
        simp only [zD, zE, zF]
        refine obs_step (Eq.trans (by simp only [zA, zB, zC]; exact rfl) rfl) rfl (fun w' hS hV K hK => ?_) ?_
        · simp only [List.mem_cons, List.not_mem_nil, or_false, forall_eq_or_imp, forall_eq, List.getD_cons_succ, List.getD_cons_zero, VIs, VSl, VRow, VAny] at hV
          obtain ⟨e0, e1, e2, e3, e4, e7, e8⟩ := hV
          obtain ⟨q0, q1⟩ := hS.1.two
          go_simp
          refine (reverse_any P A n c _ (pw n) _ xs _ hp hp2 HPW64 (hx.below hS.2) hxs).mono ?_
          rintro e w1 ⟨A2, c2, rfl, hM⟩
          exact hK.out _ _ _ rfl rfl ⟨_, _, rfl, hM.after hS.2⟩ hM.b
        simp only [zD, zE, zF]
        refine obs_step (Eq.trans (by simp only [zA, zB, zC]; exact rfl) rfl) rfl (fun w' hS hV K hK => ?_) ?_
        · simp only [List.mem_cons, List.not_mem_nil, or_false, forall_eq_or_imp, forall_eq, List.getD_cons_succ, List.getD_cons_zero, VIs, VSl, VRow, VAny] at hV
          obtain ⟨e0, e1, e2, e3, e4, e6, e7, e8, ⟨A9, c9, e9, h9⟩⟩ := hV
          obtain ⟨q0, q1⟩ := hS.1.two
          go_simp
          exact hK.out _ _ _ rfl rfl ⟨_, _, rfl, rdII_two (Blk.new _ _ _) (Rd.below ((hx.below hS.2)) ((Below.refl _ _).alloc (Nat.le_refl _) _)) (Rd.below (h9.rd) ((Below.refl _ _).alloc (Nat.le_refl _) _)) (hcx) (h9.2.cap)⟩ ((Below.refl _ _).alloc (Nat.le_refl _) _)
        simp only [zD, zE, zF]
        refine obs_step (Eq.trans (by simp only [zA, zB, zC]; exact rfl) rfl) rfl (fun w' hS hV K hK => ?_) ?_
        · simp only [List.mem_cons, List.not_mem_nil, or_false, forall_eq_or_imp, forall_eq, List.getD_cons_succ, List.getD_cons_zero, VIs, VSl, VRow, VAny] at hV
          obtain ⟨e0, e1, e2, e3, e4, e5, e6, e7, e8, ⟨A9, c9, e9, h9⟩, ⟨A10, c10, e10, h10⟩⟩ := hV
          obtain ⟨q0, q1⟩ := hS.1.two
          go_simp
          refine (times_any P A n c sq _ 2 _ [xs, (revL P xs)] _ hp hp2 hn (by omega) (ha.below hS.2) hs h10 (all_two ⟨hxs, Rd.lenI ((hx.below hS.2))⟩ ⟨(sgnL_nums (by omega) revT hxs), Rd.lenI (h9.rd)⟩)).mono ?_
          rintro e w1 ⟨A2, c2, rfl, hM⟩
          exact hK.out _ _ _ rfl rfl ⟨_, _, rfl, hM.after hS.2⟩ hM.b
        simp only [zD, zE, zF]
        refine obs_step (Eq.trans (by simp only [zA, zB, zC]; exact rfl) rfl) rfl (fun w' hS hV K hK => ?_) ?_
        · simp only [List.mem_cons, List.not_mem_nil, or_false, forall_eq_or_imp, forall_eq, List.getD_cons_succ, List.getD_cons_zero, VIs, VSl, VRow, VAny] at hV
          obtain ⟨e0, e1, e2, e3, e4, e5, e6, e7, e8, ⟨A9, c9, e9, h9⟩, ⟨A10, c10, e10, h10⟩, ⟨A11, c11, e11, h11⟩⟩ := hV
          obtain ⟨q0, q1⟩ := hS.1.two
          go_simp
          refine (onlyGrade_b _ _ _ _ _ _ HPW64 h11.rd HO.out).mono ?_
          rintro e w1 ⟨rfl, hb⟩
          exact hK.out _ _ _ rfl rfl rfl hb
        simp only [zD, zE, zF]
        refine obs_step (Eq.trans (by simp only [zA, zB, zC]; exact rfl) rfl) rfl (fun w' hS hV K hK => ?_) ?_
        · simp only [List.mem_cons, List.not_mem_nil, or_false, forall_eq_or_imp, forall_eq, List.getD_cons_succ, List.getD_cons_zero, VIs, VSl, VRow, VAny] at hV
          obtain ⟨e0, e1, e2, e3, e4, e5, e6, e7, e8, ⟨A9, c9, e9, h9⟩, ⟨A10, c10, e10, h10⟩, ⟨A11, c11, e11, h11⟩, e12⟩ := hV
          obtain ⟨q0, q1⟩ := hS.1.two
          go_simp
          exact hK.out _ _ _ rfl rfl rfl (Below.refl _ _)
        simp only [zD, zE, zF]
        refine obs_step (Eq.trans (by simp only [zA, zB, zC]; exact rfl) rfl) rfl (fun w' hS hV K hK => ?_) ?_
        · simp only [List.mem_cons, List.not_mem_nil, or_false, forall_eq_or_imp, forall_eq, List.getD_cons_succ, List.getD_cons_zero, VIs, VSl, VRow, VAny] at hV
          obtain ⟨e0, e1, e2, e3, e4, e5, e6, e7, e8, ⟨A9, c9, e9, h9⟩, ⟨A10, c10, e10, h10⟩, ⟨A11, c11, e11, h11⟩, e12, e13⟩ := hV
          obtain ⟨q0, q1⟩ := hS.1.two
          go_simp
          exact hK.out _ _ _ rfl rfl rfl (Below.refl _ _)
        simp only [zD, zE, zF]
        refine obs_step (Eq.trans (by simp only [zA, zB, zC]; exact rfl) rfl) rfl (fun w' hS hV K hK => ?_) ?_
        · simp only [List.mem_cons, List.not_mem_nil, or_false, forall_eq_or_imp, forall_eq, List.getD_cons_succ, List.getD_cons_zero, VIs, VSl, VRow, VAny] at hV
          obtain ⟨e0, e1, e2, e3, e4, e5, e6, e7, e8, ⟨A9, c9, e9, h9⟩, ⟨A10, c10, e10, h10⟩, ⟨A11, c11, e11, h11⟩, e12, e13, e14⟩ := hV
          obtain ⟨q0, q1⟩ := hS.1.two
          go_simp
          exact hK.out _ _ _ rfl rfl rfl (Below.refl _ _)
        simp only [zD, zE, zF]
        refine obs_step (Eq.trans (by simp only [zA, zB, zC]; exact rfl) rfl) rfl (fun w' hS hV K hK => ?_) ?_
        · simp only [List.mem_cons, List.not_mem_nil, or_false, forall_eq_or_imp, forall_eq, List.getD_cons_succ, List.getD_cons_zero, VIs, VSl, VRow, VAny] at hV
          obtain ⟨e0, e1, e2, e3, e4, e5, e6, e7, e8, ⟨A9, c9, e9, h9⟩, ⟨A10, c10, e10, h10⟩, ⟨A11, c11, e11, h11⟩, e12, e13, e14, e15⟩ := hV
          obtain ⟨q0, q1⟩ := hS.1.two
          go_simp
          exact hK.out _ _ _ rfl rfl rfl (Below.refl _ _)
        simp only [zD, zE, zF]
        refine obs_step (Eq.trans (by simp only [zA, zB, zC]; exact rfl) rfl) rfl (fun w' hS hV K hK => ?_) ?_
        · simp only [List.mem_cons, List.not_mem_nil, or_false, forall_eq_or_imp, forall_eq, List.getD_cons_succ, List.getD_cons_zero, VIs, VSl, VRow, VAny] at hV
          obtain ⟨e0, e1, e2, e3, e4, e5, e6, e7, e8, ⟨A9, c9, e9, h9⟩, ⟨A10, c10, e10, h10⟩, ⟨A11, c11, e11, h11⟩, e12, e13, e14, e15, e16⟩ := hV
          obtain ⟨q0, q1⟩ := hS.1.two
          go_simp
          exact hK.out _ _ _ rfl rfl rfl (Below.refl _ _)
        simp only [zD, zE, zF]
        refine obs_step (Eq.trans (by simp only [zA, zB, zC]; exact rfl) rfl) rfl (fun w' hS hV K hK => ?_) ?_
        · simp only [List.mem_cons, List.not_mem_nil, or_false, forall_eq_or_imp, forall_eq, List.getD_cons_succ, List.getD_cons_zero, VIs, VSl, VRow, VAny] at hV
          obtain ⟨e0, e1, e2, e3, e4, e5, e6, e7, e8, ⟨A9, c9, e9, h9⟩, ⟨A10, c10, e10, h10⟩, ⟨A11, c11, e11, h11⟩, e12, e13, e14, e15, e16, e17⟩ := hV
          obtain ⟨q0, q1⟩ := hS.1.two
          go_simp
          exact hK.out _ _ _ rfl rfl rfl (Below.refl _ _)
        simp only [zD, zE, zF]
        refine obs_step (Eq.trans (by simp only [zA, zB, zC]; exact rfl) rfl) rfl (fun w' hS hV K hK => ?_) ?_
        · simp only [List.mem_cons, List.not_mem_nil, or_false, forall_eq_or_imp, forall_eq, List.getD_cons_succ, List.getD_cons_zero, VIs, VSl, VRow, VAny] at hV
          obtain ⟨e0, e1, e2, e3, e4, e5, e6, e7, e8, ⟨A9, c9, e9, h9⟩, ⟨A10, c10, e10, h10⟩, ⟨A11, c11, e11, h11⟩, e12, e13, e14, e15, e16, e17, e18⟩ := hV
          obtain ⟨q0, q1⟩ := hS.1.two
          go_simp
          exact hK.out _ _ _ rfl rfl rfl (Below.refl _ _)
        simp only [zD, zE, zF]
        refine obs_step (Eq.trans (by simp only [zA, zB, zC]; exact rfl) rfl) rfl (fun w' hS hV K hK => ?_) ?_
        · simp only [List.mem_cons, List.not_mem_nil, or_false, forall_eq_or_imp, forall_eq, List.getD_cons_succ, List.getD_cons_zero, VIs, VSl, VRow, VAny] at hV
          obtain ⟨e0, e1, e2, e3, e4, e5, e6, e7, e8, ⟨A9, c9, e9, h9⟩, ⟨A10, c10, e10, h10⟩, ⟨A11, c11, e11, h11⟩, e12, e13, e14, e15, e16, e17, e18⟩ := hV
          obtain ⟨q0, q1⟩ := hS.1.two
          go_simp
          exact hK.out _ _ _ rfl rfl rfl (Below.refl _ _)
        simp only [zD, zE, zF]
        refine obs_step (Eq.trans (by simp only [zA, zB, zC]; exact rfl) rfl) rfl (fun w' hS hV K hK => ?_) ?_
        · simp only [List.mem_cons, List.not_mem_nil, or_false, forall_eq_or_imp, forall_eq, List.getD_cons_succ, List.getD_cons_zero, VIs, VSl, VRow, VAny] at hV
          obtain ⟨e0, e1, e2, e3, e4, e5, e6, e7, e8, ⟨A9, c9, e9, h9⟩, ⟨A10, c10, e10, h10⟩, ⟨A11, c11, e11, h11⟩, e12, e13, e14, e15, e16, e17, e18, e20⟩ := hV
          obtain ⟨q0, q1⟩ := hS.1.two
          go_simp
          exact hK.out _ _ _ rfl rfl rfl (Below.refl _ _)
        simp only [zD, zE, zF]
        refine obs_step (Eq.trans (by simp only [zA, zB, zC]; exact rfl) rfl) rfl (fun w' hS hV K hK => ?_) ?_
        · simp only [List.mem_cons, List.not_mem_nil, or_false, forall_eq_or_imp, forall_eq, List.getD_cons_succ, List.getD_cons_zero, VIs, VSl, VRow, VAny] at hV
          obtain ⟨e0, e1, e2, e3, e4, e5, e6, e7, e8, ⟨A9, c9, e9, h9⟩, ⟨A10, c10, e10, h10⟩, ⟨A11, c11, e11, h11⟩, e12, e13, e14, e15, e16, e17, e18, e19, e20, e21⟩ := hV
          obtain ⟨q0, q1⟩ := hS.1.two
          go_simp
          exact hK.out _ _ _ rfl rfl rfl (Below.refl _ _)
        simp only [zD, zE, zF]
        refine obs_step (Eq.trans (by simp only [zA, zB, zC]; exact rfl) rfl) rfl (fun w' hS hV K hK => ?_) ?_
        · simp only [List.mem_cons, List.not_mem_nil, or_false, forall_eq_or_imp, forall_eq, List.getD_cons_succ, List.getD_cons_zero, VIs, VSl, VRow, VAny] at hV
          obtain ⟨e0, e1, e2, e3, e4, e5, e6, e7, e8, ⟨A9, c9, e9, h9⟩, ⟨A10, c10, e10, h10⟩, ⟨A11, c11, e11, h11⟩, e12, e13, e14, e15, e16, e17, e18, e19, e20, e21, e22⟩ := hV
          obtain ⟨q0, q1⟩ := hS.1.two
          go_simp
          exact hK.out _ _ _ rfl rfl rfl (Below.refl _ _)
        simp only [zD, zE, zF]
        refine obs_step (Eq.trans (by simp only [zA, zB, zC]; exact rfl) rfl) rfl (fun w' hS hV K hK => ?_) ?_
        · simp only [List.mem_cons, List.not_mem_nil, or_false, forall_eq_or_imp, forall_eq, List.getD_cons_succ, List.getD_cons_zero, VIs, VSl, VRow, VAny] at hV
          obtain ⟨e0, e1, e2, e3, e4, e5, e6, e7, e8, ⟨A9, c9, e9, h9⟩, ⟨A10, c10, e10, h10⟩, ⟨A11, c11, e11, h11⟩, e12, e13, e14, e15, e16, e17, e18, e19, e20, e21, e22, e23⟩ := hV
          obtain ⟨q0, q1⟩ := hS.1.two
          go_simp
          exact hK.out _ _ _ rfl rfl rfl (Below.refl _ _)
        simp only [zD, zE, zF]
        refine fun w' hS hV => ?_
        have hV := fun i hi => hV i (List.mem_range.1 hi)
        simp only [List.range, List.range.loop, List.mem_cons, List.not_mem_nil, or_false, forall_eq_or_imp, forall_eq, List.getD_cons_succ, List.getD_cons_zero, VIs, VSl, VRow, VAny] at hV
        obtain ⟨e0, e1, e2, e3, e4, e5, e6, e7, e8, ⟨A9, c9, e9, h9⟩, ⟨A10, c10, e10, h10⟩, ⟨A11, c11, e11, h11⟩, e12, e13, e14, e15, e16, e17, e18, e19, e20, e21, e22, e23, e24⟩ := hV
        simp only [e0, e1, e2, e3, e4, e5, e6, e7, e8, e9, e10, e11, e12, e13, e14, e15, e16, e17, e18, e19, e20, e21, e22, e23, e24]
        clear e0 e1 e2 e3 e4 e5 e6 e7 e8 e9 e10 e11 e12 e13 e14 e15 e16 e17 e18 e19 e20 e21 e22 e23 e24
        refine wpAny_done (by kernel_rfl) ?_ _
        have hB3 := hS.2
        have k3 := hS.1
        clear hS k2 hB2
        obtain ⟨q0, q1⟩ := k3.two
        go_wp2_with fail
        refine (dim_any _ _ _ _ _).mono ?_
        rintro e w4 ⟨rfl, hb4⟩
        have hB4 := hB3.trans (hb4.mono hB3.size)
        have k4 := k3.below hb4 k3.lt
        clear q0 q1 k3 hB3
        go_wp2_with fail
        refine (unit_any n _ (by omega)).mono ?_
        rintro e w5 ⟨U, cu, rfl, hU⟩
        have hB5 := hB4.trans (hU.b.mono hB4.size)
        have k5 := k4.below hU.b k4.lt
        have hUR := hU.rd
        have HUT := Lib.hid (fun i hi => @unitM_getD n i hi)
        clear k4 hB4 hU hb4
        go_wp2_with fail
        go_loopw [10, 53] (fun _ i wr => ∃ k : Nat, k ≤ n ∧ i = .int .i64 k ∧ (List.range k).all (fun i => onlyL (imgL P sq n xs i) 1) = true ∧ Blk wr w.heap.size 26 #[.int .i64 P, .slice A n c] ∧ Below w.heap.size w wr ∧ Below w5.heap.size w5 wr) (fun _ i _ => n - (intOf i).toNat)
        case atStart => exact ⟨0, by omega, rfl, rfl, k5, hB5, Below.refl _ _⟩
        case round =>
          obtain ⟨k, hk, rfl, hal, hk3, hBr, hB5r⟩ := hrel
          have HAL := Lib.hid hal
          clear hal k5 hB5
          by_cases hlt : k < n
          · obtain ⟨gu, ou, rfl, hxk, A3, c3, hcu, hv0, hcc⟩ := (hUR.below hB5r).at_ hlt
            have hv := hv0
            rw [unitM_get, unitRow_len] at hv hcc
            rw [unitM_get, unitRow_len] at hcu
            clear hv0
            have HU := unitRow_nums hp n k
            have HT3 : Hid (timesL P sq n [invoL P xs, vecTo n (unitRow n k) n, revL P xs] = imgL P sq n xs k) := Lib.hid (timesL_three P sq n _ _ _ (by unfold invoL; rw [sgnL_len, hx.lenI]) (sgnL_nums (by omega) oddT hxs))
            cases ho : onlyL (imgL P sq n xs k) 1
            · have HO : Hid (onlyL (timesL P sq n [invoL P xs, vecTo n (unitRow n k) n, revL P xs]) 1 = false) := Lib.hid (by rw [HT3.out]; exact ho)
              have H4 := Lib.hid ho
              clear ho
              go_wp2
              refine wp_obs 14 [[], [], [], [1, 2], [], [], [4, 5], [], [], [7, 8], [1, 2, 3, 4, 5, 6, 7, 8, 9], [0, 1, 2, 3, 4, 5, 6, 7, 8, 9, 10], [0, 1, 2, 3, 4, 5, 6, 7, 8, 9, 10, 11], [0, 1, 2, 3, 4, 5, 6, 7, 8, 9, 10, 11, 12]] [VIs (.agg #[.int .i64 P, .slice A n c]), VIs (.agg #[.int .i64 P, .slice A n c]), VIs (.slice X (pw n) cx), VSl w (pw n) (invoL P xs), VIs (.agg #[.int .i64 P, .slice A n c]), VIs (.slice A3 n c3), VSl w (pw n) (vecTo n (unitRow n k) n), VIs (.agg #[.int .i64 P, .slice A n c]), VIs (.slice X (pw n) cx), VSl w (pw n) (revL P xs), VRow 3 [(invoL P xs), (vecTo n (unitRow n k) n), (revL P xs)], VSl w (pw n) (timesL P sq n [(invoL P xs), (vecTo n (unitRow n k) n), (revL P xs)]), VIs (.bool false), VIs (.bool true)] (fun w' => Blk w' w.heap.size 26 #[.int .i64 P, .slice A n c] ∧ Below w.heap.size w w' ∧ Below wr.heap.size wr w') (by kernel_rfl) (by kernel_rfl) (fun _ _ h hb => ⟨h.1.below hb h.1.lt, h.2.1.trans (hb.mono h.2.1.size), h.2.2.trans (hb.mono h.2.2.size)⟩) (⟨hk3.drew, hBr.drew, (Below.refl _ _).drew⟩) (fun x => ?_)
              refine obs_step (Eq.trans (by simp only [zA, zC]; exact rfl) rfl) rfl (fun w' hS hV K hK => ?_) ?_
              · obtain ⟨q0, q1⟩ := hS.1.two
                go_simp
                exact hK.out _ _ _ rfl rfl rfl (Below.refl _ _)
              simp only [zD, zE, zF]
              refine obs_step (Eq.trans (by simp only [zA, zB, zC]; exact rfl) rfl) rfl (fun w' hS hV K hK => ?_) ?_
              · obtain ⟨q0, q1⟩ := hS.1.two
                go_simp
                exact hK.out _ _ _ rfl rfl rfl (Below.refl _ _)
              simp only [zD, zE, zF]
              refine obs_step (Eq.trans (by simp only [zA, zB, zC]; exact rfl) rfl) rfl (fun w' hS hV K hK => ?_) ?_
              · obtain ⟨q0, q1⟩ := hS.1.two
                go_simp
                exact hK.out _ _ _ rfl rfl rfl (Below.refl _ _)
              simp only [zD, zE, zF]
              refine obs_step (Eq.trans (by simp only [zA, zB, zC]; exact rfl) rfl) rfl (fun w' hS hV K hK => ?_) ?_
              · simp only [List.mem_cons, List.not_mem_nil, or_false, forall_eq_or_imp, forall_eq, List.getD_cons_succ, List.getD_cons_zero, VIs, VSl, VRow, VAny] at hV
                obtain ⟨e1, e2⟩ := hV
                obtain ⟨q0, q1⟩ := hS.1.two
                go_simp
                refine (involute_any P A n c _ (pw n) _ xs _ hp hp2 HPW64 (hx.below hS.2.1) hxs).mono ?_
                rintro e w1 ⟨A2, c2, rfl, hM⟩
                exact hK.out _ _ _ rfl rfl ⟨_, _, rfl, hM.after hS.2.1⟩ hM.b
              simp only [zD, zE, zF]
              refine obs_step (Eq.trans (by simp only [zA, zB, zC]; exact rfl) rfl) rfl (fun w' hS hV K hK => ?_) ?_
              · obtain ⟨q0, q1⟩ := hS.1.two
                go_simp
                exact hK.out _ _ _ rfl rfl rfl (Below.refl _ _)
              simp only [zD, zE, zF]
              refine obs_step (Eq.trans (by simp only [zA, zB, zC]; exact rfl) rfl) rfl (fun w' hS hV K hK => ?_) ?_
              · obtain ⟨q0, q1⟩ := hS.1.two
                go_simp
                exact hK.out _ _ _ rfl rfl rfl (Below.refl _ _)
              simp only [zD, zE, zF]
              refine obs_step (Eq.trans (by simp only [zA, zB, zC]; exact rfl) rfl) rfl (fun w' hS hV K hK => ?_) ?_
              · simp only [List.mem_cons, List.not_mem_nil, or_false, forall_eq_or_imp, forall_eq, List.getD_cons_succ, List.getD_cons_zero, VIs, VSl, VRow, VAny] at hV
                obtain ⟨e4, e5⟩ := hV
                obtain ⟨q0, q1⟩ := hS.1.two
                go_simp
                refine (vector_any P A n c _ _ (unitRow n k) _ (by omega) (hv.below hS.2.2)).mono ?_
                rintro e w1 ⟨A2, c2, rfl, hM⟩
                exact hK.out _ _ _ rfl rfl ⟨_, _, rfl, hM.after hS.2.1⟩ hM.b
              simp only [zD, zE, zF]
              refine obs_step (Eq.trans (by simp only [zA, zB, zC]; exact rfl) rfl) rfl (fun w' hS hV K hK => ?_) ?_
              · obtain ⟨q0, q1⟩ := hS.1.two
                go_simp
                exact hK.out _ _ _ rfl rfl rfl (Below.refl _ _)
              simp only [zD, zE, zF]
              refine obs_step (Eq.trans (by simp only [zA, zB, zC]; exact rfl) rfl) rfl (fun w' hS hV K hK => ?_) ?_
              · obtain ⟨q0, q1⟩ := hS.1.two
                go_simp
                exact hK.out _ _ _ rfl rfl rfl (Below.refl _ _)
              simp only [zD, zE, zF]
              refine obs_step (Eq.trans (by simp only [zA, zB, zC]; exact rfl) rfl) rfl (fun w' hS hV K hK => ?_) ?_
              · simp only [List.mem_cons, List.not_mem_nil, or_false, forall_eq_or_imp, forall_eq, List.getD_cons_succ, List.getD_cons_zero, VIs, VSl, VRow, VAny] at hV
                obtain ⟨e7, e8⟩ := hV
                obtain ⟨q0, q1⟩ := hS.1.two
                go_simp
                refine (reverse_any P A n c _ (pw n) _ xs _ hp hp2 HPW64 (hx.below hS.2.1) hxs).mono ?_
                rintro e w1 ⟨A2, c2, rfl, hM⟩
                exact hK.out _ _ _ rfl rfl ⟨_, _, rfl, hM.after hS.2.1⟩ hM.b
              simp only [zD, zE, zF]
              refine obs_step (Eq.trans (by simp only [zA, zB, zC]; exact rfl) rfl) rfl (fun w' hS hV K hK => ?_) ?_
              · simp only [List.mem_cons, List.not_mem_nil, or_false, forall_eq_or_imp, forall_eq, List.getD_cons_succ, List.getD_cons_zero, VIs, VSl, VRow, VAny] at hV
                obtain ⟨e1, e2, ⟨A3, c3, e3, h3⟩, e4, e5, ⟨A6, c6, e6, h6⟩, e7, e8, ⟨A9, c9, e9, h9⟩⟩ := hV
                obtain ⟨q0, q1⟩ := hS.1.two
                go_simp
                exact hK.out _ _ _ rfl rfl ⟨_, _, rfl, rdII_three (Blk.new _ _ _) (Rd.below (h3.rd) ((Below.refl _ _).alloc (Nat.le_refl _) _)) (Rd.below (h6.rd) ((Below.refl _ _).alloc (Nat.le_refl _) _)) (Rd.below (h9.rd) ((Below.refl _ _).alloc (Nat.le_refl _) _)) (h3.2.cap) (h6.2.cap) (h9.2.cap)⟩ ((Below.refl _ _).alloc (Nat.le_refl _) _)
              simp only [zD, zE, zF]
              refine obs_step (Eq.trans (by simp only [zA, zB, zC]; exact rfl) rfl) rfl (fun w' hS hV K hK => ?_) ?_
              · simp only [List.mem_cons, List.not_mem_nil, or_false, forall_eq_or_imp, forall_eq, List.getD_cons_succ, List.getD_cons_zero, VIs, VSl, VRow, VAny] at hV
                obtain ⟨e0, e1, e2, ⟨A3, c3, e3, h3⟩, e4, e5, ⟨A6, c6, e6, h6⟩, e7, e8, ⟨A9, c9, e9, h9⟩, ⟨A10, c10, e10, h10⟩⟩ := hV
                obtain ⟨q0, q1⟩ := hS.1.two
                go_simp
                refine (times_any P A n c sq _ 3 _ [(invoL P xs), (vecTo n (unitRow n k) n), (revL P xs)] _ hp hp2 hn (by omega) (ha.below hS.2.1) hs h10 (all_three ⟨(sgnL_nums (by omega) oddT hxs), Rd.lenI (h3.rd)⟩ ⟨(vecTo_nums (by omega) n (unitRow n k) HU n), Rd.lenI (h6.rd)⟩ ⟨(sgnL_nums (by omega) revT hxs), Rd.lenI (h9.rd)⟩)).mono ?_
                rintro e w1 ⟨A2, c2, rfl, hM⟩
                exact hK.out _ _ _ rfl rfl ⟨_, _, rfl, hM.after hS.2.1⟩ hM.b
              simp only [zD, zE, zF]
              refine obs_step (Eq.trans (by simp only [zA, zB, zC]; exact rfl) rfl) rfl (fun w' hS hV K hK => ?_) ?_
              · simp only [List.mem_cons, List.not_mem_nil, or_false, forall_eq_or_imp, forall_eq, List.getD_cons_succ, List.getD_cons_zero, VIs, VSl, VRow, VAny] at hV
                obtain ⟨e0, e1, e2, ⟨A3, c3, e3, h3⟩, e4, e5, ⟨A6, c6, e6, h6⟩, e7, e8, ⟨A9, c9, e9, h9⟩, ⟨A10, c10, e10, h10⟩, ⟨A11, c11, e11, h11⟩⟩ := hV
                obtain ⟨q0, q1⟩ := hS.1.two
                go_simp
                refine (onlyGrade_b _ _ _ _ _ _ HPW64 h11.rd HO.out).mono ?_
                rintro e w1 ⟨rfl, hb⟩
                exact hK.out _ _ _ rfl rfl rfl hb
              simp only [zD, zE, zF]
              refine obs_step (Eq.trans (by simp only [zA, zB, zC]; exact rfl) rfl) rfl (fun w' hS hV K hK => ?_) ?_
              · simp only [List.mem_cons, List.not_mem_nil, or_false, forall_eq_or_imp, forall_eq, List.getD_cons_succ, List.getD_cons_zero, VIs, VSl, VRow, VAny] at hV
                obtain ⟨e0, e1, e2, ⟨A3, c3, e3, h3⟩, e4, e5, ⟨A6, c6, e6, h6⟩, e7, e8, ⟨A9, c9, e9, h9⟩, ⟨A10, c10, e10, h10⟩, ⟨A11, c11, e11, h11⟩, e12⟩ := hV
                obtain ⟨q0, q1⟩ := hS.1.two
                go_simp
                exact hK.out _ _ _ rfl rfl rfl (Below.refl _ _)
              simp only [zD, zE, zF]
              refine fun w' hS hV => ?_
              have hV := fun i hi => hV i (List.mem_range.1 hi)
              simp only [List.range, List.range.loop, List.mem_cons, List.not_mem_nil, or_false, forall_eq_or_imp, forall_eq, List.getD_cons_succ, List.getD_cons_zero, VIs, VSl, VRow, VAny] at hV
              obtain ⟨e0, e1, e2, ⟨A3, c3, e3, h3⟩, e4, e5, ⟨A6, c6, e6, h6⟩, e7, e8, ⟨A9, c9, e9, h9⟩, ⟨A10, c10, e10, h10⟩, ⟨A11, c11, e11, h11⟩, e12, e13⟩ := hV
              simp only [e0, e1, e2, e3, e4, e5, e6, e7, e8, e9, e10, e11, e12, e13]
              clear e0 e1 e2 e3 e4 e5 e6 e7 e8 e9 e10 e11 e12 e13
              refine wpAny_done (by kernel_rfl) ?_ _
              go_wp2
              go_ret
              refine ⟨ret_bool ?_, hS.2.1⟩
              have : ((List.range n).all fun i => onlyL (imgL P sq n xs i) 1) = false := by
                rw [List.all_eq_false]
                exact ⟨k, by simpa using hlt, by rw [H4.out]; decide⟩
              unfold versB
              rw [this, Bool.and_false]
            · have HO : Hid (onlyL (timesL P sq n [invoL P xs, vecTo n (unitRow n k) n, revL P xs]) 1 = true) := Lib.hid (by rw [HT3.out]; exact ho)
              have H4 := Lib.hid ho
              clear ho
              go_wp2
              refine wp_obs 14 [[], [], [], [1, 2], [], [], [4, 5], [], [], [7, 8], [1, 2, 3, 4, 5, 6, 7, 8, 9], [0, 1, 2, 3, 4, 5, 6, 7, 8, 9, 10], [0, 1, 2, 3, 4, 5, 6, 7, 8, 9, 10, 11], [0, 1, 2, 3, 4, 5, 6, 7, 8, 9, 10, 11, 12]] [VIs (.agg #[.int .i64 P, .slice A n c]), VIs (.agg #[.int .i64 P, .slice A n c]), VIs (.slice X (pw n) cx), VSl w (pw n) (invoL P xs), VIs (.agg #[.int .i64 P, .slice A n c]), VIs (.slice A3 n c3), VSl w (pw n) (vecTo n (unitRow n k) n), VIs (.agg #[.int .i64 P, .slice A n c]), VIs (.slice X (pw n) cx), VSl w (pw n) (revL P xs), VRow 3 [(invoL P xs), (vecTo n (unitRow n k) n), (revL P xs)], VSl w (pw n) (timesL P sq n [(invoL P xs), (vecTo n (unitRow n k) n), (revL P xs)]), VIs (.bool true), VIs (.bool false)] (fun w' => Blk w' w.heap.size 26 #[.int .i64 P, .slice A n c] ∧ Below w.heap.size w w' ∧ Below wr.heap.size wr w') (by kernel_rfl) (by kernel_rfl) (fun _ _ h hb => ⟨h.1.below hb h.1.lt, h.2.1.trans (hb.mono h.2.1.size), h.2.2.trans (hb.mono h.2.2.size)⟩) (⟨hk3.drew, hBr.drew, (Below.refl _ _).drew⟩) (fun x => ?_)
              refine obs_step (Eq.trans (by simp only [zA, zC]; exact rfl) rfl) rfl (fun w' hS hV K hK => ?_) ?_
              · obtain ⟨q0, q1⟩ := hS.1.two
                go_simp
                exact hK.out _ _ _ rfl rfl rfl (Below.refl _ _)
              simp only [zD, zE, zF]
              refine obs_step (Eq.trans (by simp only [zA, zB, zC]; exact rfl) rfl) rfl (fun w' hS hV K hK => ?_) ?_
              · obtain ⟨q0, q1⟩ := hS.1.two
                go_simp
                exact hK.out _ _ _ rfl rfl rfl (Below.refl _ _)
              simp only [zD, zE, zF]
              refine obs_step (Eq.trans (by simp only [zA, zB, zC]; exact rfl) rfl) rfl (fun w' hS hV K hK => ?_) ?_
              · obtain ⟨q0, q1⟩ := hS.1.two
                go_simp
                exact hK.out _ _ _ rfl rfl rfl (Below.refl _ _)
              simp only [zD, zE, zF]
              refine obs_step (Eq.trans (by simp only [zA, zB, zC]; exact rfl) rfl) rfl (fun w' hS hV K hK => ?_) ?_
              · simp only [List.mem_cons, List.not_mem_nil, or_false, forall_eq_or_imp, forall_eq, List.getD_cons_succ, List.getD_cons_zero, VIs, VSl, VRow, VAny] at hV
                obtain ⟨e1, e2⟩ := hV
                obtain ⟨q0, q1⟩ := hS.1.two
                go_simp
                refine (involute_any P A n c _ (pw n) _ xs _ hp hp2 HPW64 (hx.below hS.2.1) hxs).mono ?_
                rintro e w1 ⟨A2, c2, rfl, hM⟩
                exact hK.out _ _ _ rfl rfl ⟨_, _, rfl, hM.after hS.2.1⟩ hM.b
              simp only [zD, zE, zF]
              refine obs_step (Eq.trans (by simp only [zA, zB, zC]; exact rfl) rfl) rfl (fun w' hS hV K hK => ?_) ?_
              · obtain ⟨q0, q1⟩ := hS.1.two
                go_simp
                exact hK.out _ _ _ rfl rfl rfl (Below.refl _ _)
              simp only [zD, zE, zF]
              refine obs_step (Eq.trans (by simp only [zA, zB, zC]; exact rfl) rfl) rfl (fun w' hS hV K hK => ?_) ?_
              · obtain ⟨q0, q1⟩ := hS.1.two
                go_simp
                exact hK.out _ _ _ rfl rfl rfl (Below.refl _ _)
              simp only [zD, zE, zF]
              refine obs_step (Eq.trans (by simp only [zA, zB, zC]; exact rfl) rfl) rfl (fun w' hS hV K hK => ?_) ?_
              · simp only [List.mem_cons, List.not_mem_nil, or_false, forall_eq_or_imp, forall_eq, List.getD_cons_succ, List.getD_cons_zero, VIs, VSl, VRow, VAny] at hV
                obtain ⟨e4, e5⟩ := hV
                obtain ⟨q0, q1⟩ := hS.1.two
                go_simp
                refine (vector_any P A n c _ _ (unitRow n k) _ (by omega) (hv.below hS.2.2)).mono ?_
                rintro e w1 ⟨A2, c2, rfl, hM⟩
                exact hK.out _ _ _ rfl rfl ⟨_, _, rfl, hM.after hS.2.1⟩ hM.b
              simp only [zD, zE, zF]
              refine obs_step (Eq.trans (by simp only [zA, zB, zC]; exact rfl) rfl) rfl (fun w' hS hV K hK => ?_) ?_
              · obtain ⟨q0, q1⟩ := hS.1.two
                go_simp
                exact hK.out _ _ _ rfl rfl rfl (Below.refl _ _)
              simp only [zD, zE, zF]
              refine obs_step (Eq.trans (by simp only [zA, zB, zC]; exact rfl) rfl) rfl (fun w' hS hV K hK => ?_) ?_
              · obtain ⟨q0, q1⟩ := hS.1.two
                go_simp
                exact hK.out _ _ _ rfl rfl rfl (Below.refl _ _)
              simp only [zD, zE, zF]
              refine obs_step (Eq.trans (by simp only [zA, zB, zC]; exact rfl) rfl) rfl (fun w' hS hV K hK => ?_) ?_
              · simp only [List.mem_cons, List.not_mem_nil, or_false, forall_eq_or_imp, forall_eq, List.getD_cons_succ, List.getD_cons_zero, VIs, VSl, VRow, VAny] at hV
                obtain ⟨e7, e8⟩ := hV
                obtain ⟨q0, q1⟩ := hS.1.two
                go_simp
                refine (reverse_any P A n c _ (pw n) _ xs _ hp hp2 HPW64 (hx.below hS.2.1) hxs).mono ?_
                rintro e w1 ⟨A2, c2, rfl, hM⟩
                exact hK.out _ _ _ rfl rfl ⟨_, _, rfl, hM.after hS.2.1⟩ hM.b
              simp only [zD, zE, zF]
              refine obs_step (Eq.trans (by simp only [zA, zB, zC]; exact rfl) rfl) rfl (fun w' hS hV K hK => ?_) ?_
              · simp only [List.mem_cons, List.not_mem_nil, or_false, forall_eq_or_imp, forall_eq, List.getD_cons_succ, List.getD_cons_zero, VIs, VSl, VRow, VAny] at hV
                obtain ⟨e1, e2, ⟨A3, c3, e3, h3⟩, e4, e5, ⟨A6, c6, e6, h6⟩, e7, e8, ⟨A9, c9, e9, h9⟩⟩ := hV
                obtain ⟨q0, q1⟩ := hS.1.two
                go_simp
                exact hK.out _ _ _ rfl rfl ⟨_, _, rfl, rdII_three (Blk.new _ _ _) (Rd.below (h3.rd) ((Below.refl _ _).alloc (Nat.le_refl _) _)) (Rd.below (h6.rd) ((Below.refl _ _).alloc (Nat.le_refl _) _)) (Rd.below (h9.rd) ((Below.refl _ _).alloc (Nat.le_refl _) _)) (h3.2.cap) (h6.2.cap) (h9.2.cap)⟩ ((Below.refl _ _).alloc (Nat.le_refl _) _)
              simp only [zD, zE, zF]
              refine obs_step (Eq.trans (by simp only [zA, zB, zC]; exact rfl) rfl) rfl (fun w' hS hV K hK => ?_) ?_
              · simp only [List.mem_cons, List.not_mem_nil, or_false, forall_eq_or_imp, forall_eq, List.getD_cons_succ, List.getD_cons_zero, VIs, VSl, VRow, VAny] at hV
                obtain ⟨e0, e1, e2, ⟨A3, c3, e3, h3⟩, e4, e5, ⟨A6, c6, e6, h6⟩, e7, e8, ⟨A9, c9, e9, h9⟩, ⟨A10, c10, e10, h10⟩⟩ := hV
                obtain ⟨q0, q1⟩ := hS.1.two
                go_simp
                refine (times_any P A n c sq _ 3 _ [(invoL P xs), (vecTo n (unitRow n k) n), (revL P xs)] _ hp hp2 hn (by omega) (ha.below hS.2.1) hs h10 (all_three ⟨(sgnL_nums (by omega) oddT hxs), Rd.lenI (h3.rd)⟩ ⟨(vecTo_nums (by omega) n (unitRow n k) HU n), Rd.lenI (h6.rd)⟩ ⟨(sgnL_nums (by omega) revT hxs), Rd.lenI (h9.rd)⟩)).mono ?_
                rintro e w1 ⟨A2, c2, rfl, hM⟩
                exact hK.out _ _ _ rfl rfl ⟨_, _, rfl, hM.after hS.2.1⟩ hM.b
              simp only [zD, zE, zF]
              refine obs_step (Eq.trans (by simp only [zA, zB, zC]; exact rfl) rfl) rfl (fun w' hS hV K hK => ?_) ?_
              · simp only [List.mem_cons, List.not_mem_nil, or_false, forall_eq_or_imp, forall_eq, List.getD_cons_succ, List.getD_cons_zero, VIs, VSl, VRow, VAny] at hV
                obtain ⟨e0, e1, e2, ⟨A3, c3, e3, h3⟩, e4, e5, ⟨A6, c6, e6, h6⟩, e7, e8, ⟨A9, c9, e9, h9⟩, ⟨A10, c10, e10, h10⟩, ⟨A11, c11, e11, h11⟩⟩ := hV
                obtain ⟨q0, q1⟩ := hS.1.two
                go_simp
                refine (onlyGrade_b _ _ _ _ _ _ HPW64 h11.rd HO.out).mono ?_
                rintro e w1 ⟨rfl, hb⟩
                exact hK.out _ _ _ rfl rfl rfl hb
              simp only [zD, zE, zF]
              refine obs_step (Eq.trans (by simp only [zA, zB, zC]; exact rfl) rfl) rfl (fun w' hS hV K hK => ?_) ?_
              · simp only [List.mem_cons, List.not_mem_nil, or_false, forall_eq_or_imp, forall_eq, List.getD_cons_succ, List.getD_cons_zero, VIs, VSl, VRow, VAny] at hV
                obtain ⟨e0, e1, e2, ⟨A3, c3, e3, h3⟩, e4, e5, ⟨A6, c6, e6, h6⟩, e7, e8, ⟨A9, c9, e9, h9⟩, ⟨A10, c10, e10, h10⟩, ⟨A11, c11, e11, h11⟩, e12⟩ := hV
                obtain ⟨q0, q1⟩ := hS.1.two
                go_simp
                exact hK.out _ _ _ rfl rfl rfl (Below.refl _ _)
              simp only [zD, zE, zF]
              refine fun w' hS hV => ?_
              have hV := fun i hi => hV i (List.mem_range.1 hi)
              simp only [List.range, List.range.loop, List.mem_cons, List.not_mem_nil, or_false, forall_eq_or_imp, forall_eq, List.getD_cons_succ, List.getD_cons_zero, VIs, VSl, VRow, VAny] at hV
              obtain ⟨e0, e1, e2, ⟨A3, c3, e3, h3⟩, e4, e5, ⟨A6, c6, e6, h6⟩, e7, e8, ⟨A9, c9, e9, h9⟩, ⟨A10, c10, e10, h10⟩, ⟨A11, c11, e11, h11⟩, e12, e13⟩ := hV
              simp only [e0, e1, e2, e3, e4, e5, e6, e7, e8, e9, e10, e11, e12, e13]
              clear e0 e1 e2 e3 e4 e5 e6 e7 e8 e9 e10 e11 e12 e13
              refine wpAny_done (by kernel_rfl) ?_ _
              go_wp2
              go_roundw
              case rel => exact ⟨k + 1, by omega, by go_num, by rw [List.range_succ, List.all_append, HAL.out]; simp [H4.out], hS.1, hS.2.1, hB5r.trans (hS.2.2.mono hB5r.size)⟩
              case measure => simp [intOf]; omega
          · obtain rfl : k = n := by omega
            go_wp2
            go_ret
            exact ⟨ret_bool (by unfold versB; rw [H1.out, H2.out, H3.out, HAL.out]; rfl), hBr⟩
set_option maxHeartbeats 3200000 in
set_option maxRecDepth 8000 in
theorem isVersor_E (P : Int) (A : Option Addr) (n c : Nat) (sq : List Int) (X : Option Addr) (cx : Nat) (xs : List Int) (w : World) (hp : 2 ≤ P) (hp2 : P ≤ 13) (hn : n ≤ 6) (ha : Rd w A n (ints sq)) (hs : NumsL P sq) (hx : Rd w X (pw n) (ints xs)) (hxs : NumsL P xs) (hcx : pw n ≤ cx) (h1 : ¬ nrmL P sq xs = 0) (h2 : onlyL (mulL P sq xs (revL P xs)) 0 = true) (h3 : mixB (gradesL xs) = false) (h4 : ¬ cntO (gradesL xs) = 0) :
    Calls Tryz.prog 160 #[.agg #[.int .i64 P, .slice A n c], .slice X (pw n) cx] w fun e w' => e = .returned (.bool (versB P sq n xs)) ∧ Below w.heap.size w w' := by
  have hB0 : Below w.heap.size w (w.alloc (.cells #[.int .i64 P, .slice A n c] 26)) := (Below.refl _ _).alloc (Nat.le_refl _) _
  have k0 : Blk (w.alloc (.cells #[.int .i64 P, .slice A n c] 26)) w.heap.size 26 #[.int .i64 P, .slice A n c] := Blk.new _ _ _
  have HPW : pw n ≤ 65536 := Nat.le_trans (pw_le (show n ≤ 10 by omega)) (by decide)
  have HPW64 : pw n ≤ 64 := pw_le hn
  have hl7 := gradesL_len xs
  have hrg := gradesL_range xs
  have HT2 : Hid (timesL P sq n [xs, revL P xs] = mulL P sq xs (revL P xs)) := Lib.hid (timesL_two P sq n _ _ hx.lenI hxs)
  obtain ⟨gs, hgs⟩ : ∃ gs, gs = gradesL xs := ⟨_, rfl⟩
  have HGS := Lib.hid hgs
  rw [← hgs] at hl7 hrg
  have HMC : Hid (mixB gs = (((cntO gs : Nat) : Int) != 0 && ((cntO gs : Nat) : Int) != ((gs.length : Nat) : Int))) := Lib.hid (mix_cnt fun g hg => (hrg g hg).1)
  clear hgs
  have b1 : (nrmL P sq xs == 0) = false := by simp [h1]
  have H1 := Lib.hid b1
  have H2 := Lib.hid h2
  have HO : Hid (onlyL (timesL P sq n [xs, revL P xs]) 0 = true) := Lib.hid (by rw [HT2.out]; exact h2)
  have H3 := Lib.hid h3
  have c1 : (((cntO gs : Nat) : Int) != 0) = true := by rw [HGS.out]; simp [h4]
  have c2 : (((cntO gs : Nat) : Int) != ((gs.length : Nat) : Int)) = false := by
    have := HMC.out
    rw [HGS.out, h3, ← HGS.out, c1, Bool.true_and] at this
    exact this.symm
  clear h4
  clear h1 h2 h3
  · skip
    go_enter Tryz.func160, Tryz.ntmps160
    go_wp2_with fail
    refine (gradesOf_any X (pw n) cx xs _ HPW64 (hx.below hB0)).mono ?_
    rintro e w1 ⟨A', c', rfl, hM⟩
    have hB1 := hB0.trans (hM.b.mono (by simp))
    have k1 := k0.below hM.b k0.lt
    rw [← HGS.out] at hM ⊢
    obtain ⟨l, hl⟩ : ∃ l, l = gs.length := ⟨_, rfl⟩
    rw [← hl] at hM hl7 ⊢
    have HL := Lib.hid hl
    clear hl k0 hB0
    go_wp2_with fail
    go_loop [5, 8, 15] (fun o _ i => ∃ k : Nat, k ≤ l ∧ i = .int .i64 k ∧ o = .int .i64 ((cntO (gs.take k) : Nat) : Int)) (fun _ _ i => l - (intOf i).toNat)
    case atStart => exact ⟨0, by omega, rfl, rfl⟩
    case round =>
      obtain ⟨k, hk, rfl, rfl⟩ := hrel
      by_cases hlt : k < l
      · obtain ⟨g, o, rfl, hxk, hcx'⟩ := hM.rd.int hlt
        obtain ⟨r1, r2⟩ := hrg _ (List.getElem_mem hxk)
        have HC := Lib.hid (cntO_take hxk r1)
        have hcl := cntO_le (gs.take k)
        have hcl2 : (gs.take k).length ≤ k := List.length_take_le _ _
        obtain ⟨q, hq⟩ : ∃ q, q = cntO (gs.take k) := ⟨_, rfl⟩
        rw [← hq] at hcl ⊢
        have HQ := Lib.hid hq
        clear hq
        go_wp2
        go_round
        case rel => exact ⟨k + 1, by omega, by go_num, by rw [HC.out, HQ.out]⟩
        case measure => simp [intOf]; omega
      · obtain rfl : k = l := by omega
        have e0 : gs.take k = gs := List.take_of_length_le (by rw [← HL.out]; omega)
        rw [e0]
        clear e0
        have hw' : w1 = w1 := rfl
        have k2 := k1
        have hB2 := hB1
        clear k1 hB1
        try rw [← HL.out] at c2
        go_wp2
        refine wp_obs 25 [[], [], [0, 1], [0, 1, 2], [0, 1, 2, 3], [0, 1, 2, 3, 4], [0, 1, 2, 3, 4], [0, 1, 2, 3, 4], [0, 1, 2, 3, 4], [0, 1, 2, 3, 4, 7, 8], [0, 1, 2, 3, 4, 6, 7, 8, 9], [0, 1, 2, 3, 4, 5, 6, 7, 8, 9, 10], [0, 1, 2, 3, 4, 5, 6, 7, 8, 9, 10, 11], [0, 1, 2, 3, 4, 5, 6, 7, 8, 9, 10, 11, 12], [0, 1, 2, 3, 4, 5, 6, 7, 8, 9, 10, 11, 12, 13], [0, 1, 2, 3, 4, 5, 6, 7, 8, 9, 10, 11, 12, 13, 14], [0, 1, 2, 3, 4, 5, 6, 7, 8, 9, 10, 11, 12, 13, 14, 15], [0, 1, 2, 3, 4, 5, 6, 7, 8, 9, 10, 11, 12, 13, 14, 15, 16], [0, 1, 2, 3, 4, 5, 6, 7, 8, 9, 10, 11, 12, 13, 14, 15, 16, 17], [0, 1, 2, 3, 4, 5, 6, 7, 8, 9, 10, 11, 12, 13, 14, 15, 16, 17, 18], [0, 1, 2, 3, 4, 5, 6, 7, 8, 9, 10, 11, 12, 13, 14, 15, 16, 17, 18], [0, 1, 2, 3, 4, 5, 6, 7, 8, 9, 10, 11, 12, 13, 14, 15, 16, 17, 18, 20], [0, 1, 2, 3, 4, 5, 6, 7, 8, 9, 10, 11, 12, 13, 14, 15, 16, 17, 18, 19, 20, 21], [0, 1, 2, 3, 4, 5, 6, 7, 8, 9, 10, 11, 12, 13, 14, 15, 16, 17, 18, 19, 20, 21, 22], [0, 1, 2, 3, 4, 5, 6, 7, 8, 9, 10, 11, 12, 13, 14, 15, 16, 17, 18, 19, 20, 21, 22, 23]] [VIs (.agg #[.int .i64 P, .slice A n c]), VIs (.slice X (pw n) cx), VIs (.int .i64 (nrmL P sq xs)), VIs (.bool false), VIs (.bool false), VIs (.agg #[.int .i64 P, .slice A n c]), VIs (.slice X (pw n) cx), VIs (.agg #[.int .i64 P, .slice A n c]), VIs (.slice X (pw n) cx), VSl w (pw n) (revL P xs), VRow 2 [xs, (revL P xs)], VSl w (pw n) (timesL P sq n [xs, (revL P xs)]), VIs (.bool true), VIs (.bool false), VIs (.bool false), VIs (.bool false), VIs (.int .i64 ((cntO gs : Nat) : Int)), VIs (.bool true), VIs (.bool true), VIs (.int .i64 ((cntO gs : Nat) : Int)), VIs (.slice A' k c'), VIs (.int .i64 ((k : Nat) : Int)), VIs (.bool false), VIs (.bool false), VIs (.bool false)] (fun w' => Blk w' w.heap.size 26 #[.int .i64 P, .slice A n c] ∧ Below w.heap.size w w') (by kernel_rfl) (by kernel_rfl) (fun _ _ h hb => ⟨h.1.below hb h.1.lt, h.2.trans (hb.mono h.2.size)⟩) (⟨k2.drew, hB2.drew⟩) (fun x => ?_)
        refine obs_step (Eq.trans (by simp only [zA, zC]; exact rfl) rfl) rfl (fun w' hS hV K hK => ?_) ?_
        · obtain ⟨q0, q1⟩ := hS.1.two
          go_simp
          exact hK.out _ _ _ rfl rfl rfl (Below.refl _ _)
        simp only [zD, zE, zF]
        refine obs_step (Eq.trans (by simp only [zA, zB, zC]; exact rfl) rfl) rfl (fun w' hS hV K hK => ?_) ?_
        · obtain ⟨q0, q1⟩ := hS.1.two
          go_simp
          exact hK.out _ _ _ rfl rfl rfl (Below.refl _ _)
        simp only [zD, zE, zF]
        refine obs_step (Eq.trans (by simp only [zA, zB, zC]; exact rfl) rfl) rfl (fun w' hS hV K hK => ?_) ?_
        · simp only [List.mem_cons, List.not_mem_nil, or_false, forall_eq_or_imp, forall_eq, List.getD_cons_succ, List.getD_cons_zero, VIs, VSl, VRow, VAny] at hV
          obtain ⟨e0, e1⟩ := hV
          obtain ⟨q0, q1⟩ := hS.1.two
          go_simp
          refine (spinorNorm_any P A n c sq _ _ xs _ hp hp2 hn (ha.below hS.2) hs (hx.below hS.2) hxs hcx).mono ?_
          rintro e w1 ⟨rfl, hb⟩
          exact hK.out _ _ _ rfl rfl rfl hb
        simp only [zD, zE, zF]
        refine obs_step (Eq.trans (by simp only [zA, zB, zC]; exact rfl) rfl) rfl (fun w' hS hV K hK => ?_) ?_
        · simp only [List.mem_cons, List.not_mem_nil, or_false, forall_eq_or_imp, forall_eq, List.getD_cons_succ, List.getD_cons_zero, VIs, VSl, VRow, VAny] at hV
          obtain ⟨e0, e1, e2⟩ := hV
          obtain ⟨q0, q1⟩ := hS.1.two
          go_simp
          exact hK.out _ _ _ rfl rfl rfl (Below.refl _ _)
        simp only [zD, zE, zF]
        refine obs_step (Eq.trans (by simp only [zA, zB, zC]; exact rfl) rfl) rfl (fun w' hS hV K hK => ?_) ?_
        · simp only [List.mem_cons, List.not_mem_nil, or_false, forall_eq_or_imp, forall_eq, List.getD_cons_succ, List.getD_cons_zero, VIs, VSl, VRow, VAny] at hV
          obtain ⟨e0, e1, e2, e3⟩ := hV
          obtain ⟨q0, q1⟩ := hS.1.two
          go_simp
          exact hK.out _ _ _ rfl rfl rfl (Below.refl _ _)
        simp only [zD, zE, zF]
        refine obs_step (Eq.trans (by simp only [zA, zB, zC]; exact rfl) rfl) rfl (fun w' hS hV K hK => ?_) ?_
        · simp only [List.mem_cons, List.not_mem_nil, or_false, forall_eq_or_imp, forall_eq, List.getD_cons_succ, List.getD_cons_zero, VIs, VSl, VRow, VAny] at hV
          obtain ⟨e0, e1, e2, e3, e4⟩ := hV
          obtain ⟨q0, q1⟩ := hS.1.two
          go_simp
          exact hK.out _ _ _ rfl rfl rfl (Below.refl _ _)
        simp only [zD, zE, zF]
        refine obs_step (Eq.trans (by simp only [zA, zB, zC]; exact rfl) rfl) rfl (fun w' hS hV K hK => ?_) ?_
        · simp only [List.mem_cons, List.not_mem_nil, or_false, forall_eq_or_imp, forall_eq, List.getD_cons_succ, List.getD_cons_zero, VIs, VSl, VRow, VAny] at hV
          obtain ⟨e0, e1, e2, e3, e4⟩ := hV
          obtain ⟨q0, q1⟩ := hS.1.two
          go_simp
          exact hK.out _ _ _ rfl rfl rfl (Below.refl _ _)
        simp only [zD, zE, zF]
        refine obs_step (Eq.trans (by simp only [zA, zB, zC]; exact rfl) rfl) rfl (fun w' hS hV K hK => ?_) ?_
        · simp only [List.mem_cons, List.not_mem_nil, or_false, forall_eq_or_imp, forall_eq, List.getD_cons_succ, List.getD_cons_zero, VIs, VSl, VRow, VAny] at hV
          obtain ⟨e0, e1, e2, e3, e4⟩ := hV
          obtain ⟨q0, q1⟩ := hS.1.two
          go_simp
          exact hK.out _ _ _ rfl rfl rfl (Below.refl _ _)
        simp only [zD, zE, zF]
        refine obs_step (Eq.trans (by simp only [zA, zB, zC]; exact rfl) rfl) rfl (fun w' hS hV K hK => ?_) ?_
        · simp only [List.mem_cons, List.not_mem_nil, or_false, forall_eq_or_imp, forall_eq, List.getD_cons_succ, List.getD_cons_zero, VIs, VSl, VRow, VAny] at hV
          obtain ⟨e0, e1, e2, e3, e4⟩ := hV
          obtain ⟨q0, q1⟩ := hS.1.two
          go_simp
          exact hK.out _ _ _ rfl rfl rfl (Below.refl _ _)
        simp only [zD, zE, zF]
        refine obs_step (Eq.trans (by simp only [zA, zB, zC]; exact rfl) rfl) rfl (fun w' hS hV K hK => ?_) ?_
        · simp only [List.mem_cons, List.not_mem_nil, or_false, forall_eq_or_imp, forall_eq, List.getD_cons_succ, List.getD_cons_zero, VIs, VSl, VRow, VAny] at hV
          obtain ⟨e0, e1, e2, e3, e4, e7, e8⟩ := hV
          obtain ⟨q0, q1⟩ := hS.1.two
          go_simp
          refine (reverse_any P A n c _ (pw n) _ xs _ hp hp2 HPW64 (hx.below hS.2) hxs).mono ?_
          rintro e w1 ⟨A2, c2, rfl, hM⟩
          exact hK.out _ _ _ rfl rfl ⟨_, _, rfl, hM.after hS.2⟩ hM.b
        simp only [zD, zE, zF]
        refine obs_step (Eq.trans (by simp only [zA, zB, zC]; exact rfl) rfl) rfl (fun w' hS hV K hK => ?_) ?_
        · simp only [List.mem_cons, List.not_mem_nil, or_false, forall_eq_or_imp, forall_eq, List.getD_cons_succ, List.getD_cons_zero, VIs, VSl, VRow, VAny] at hV
          obtain ⟨e0, e1, e2, e3, e4, e6, e7, e8, ⟨A9, c9, e9, h9⟩⟩ := hV
          obtain ⟨q0, q1⟩ := hS.1.two
          go_simp
          exact hK.out _ _ _ rfl rfl ⟨_, _, rfl, rdII_two (Blk.new _ _ _) (Rd.below ((hx.below hS.2)) ((Below.refl _ _).alloc (Nat.le_refl _) _)) (Rd.below (h9.rd) ((Below.refl _ _).alloc (Nat.le_refl _) _)) (hcx) (h9.2.cap)⟩ ((Below.refl _ _).alloc (Nat.le_refl _) _)
        simp only [zD, zE, zF]
        refine obs_step (Eq.trans (by simp only [zA, zB, zC]; exact rfl) rfl) rfl (fun w' hS hV K hK => ?_) ?_
        · simp only [List.mem_cons, List.not_mem_nil, or_false, forall_eq_or_imp, forall_eq, List.getD_cons_succ, List.getD_cons_zero, VIs, VSl, VRow, VAny] at hV
          obtain ⟨e0, e1, e2, e3, e4, e5, e6, e7, e8, ⟨A9, c9, e9, h9⟩, ⟨A10, c10, e10, h10⟩⟩ := hV
          obtain ⟨q0, q1⟩ := hS.1.two
          go_simp
          refine (times_any P A n c sq _ 2 _ [xs, (revL P xs)] _ hp hp2 hn (by omega) (ha.below hS.2) hs h10 (all_two ⟨hxs, Rd.lenI ((hx.below hS.2))⟩ ⟨(sgnL_nums (by omega) revT hxs), Rd.lenI (h9.rd)⟩)).mono ?_
          rintro e w1 ⟨A2, c2, rfl, hM⟩
          exact hK.out _ _ _ rfl rfl ⟨_, _, rfl, hM.after hS.2⟩ hM.b
        simp only [zD, zE, zF]
        refine obs_step (Eq.trans (by simp only [zA, zB, zC]; exact rfl) rfl) rfl (fun w' hS hV K hK => ?_) ?_
        · simp only [List.mem_cons, List.not_mem_nil, or_false, forall_eq_or_imp, forall_eq, List.getD_cons_succ, List.getD_cons_zero, VIs, VSl, VRow, VAny] at hV
          obtain ⟨e0, e1, e2, e3, e4, e5, e6, e7, e8, ⟨A9, c9, e9, h9⟩, ⟨A10, c10, e10, h10⟩, ⟨A11, c11, e11, h11⟩⟩ := hV
          obtain ⟨q0, q1⟩ := hS.1.two
          go_simp
          refine (onlyGrade_b _ _ _ _ _ _ HPW64 h11.rd HO.out).mono ?_
          rintro e w1 ⟨rfl, hb⟩
          exact hK.out _ _ _ rfl rfl rfl hb
        simp only [zD, zE, zF]
        refine obs_step (Eq.trans (by simp only [zA, zB, zC]; exact rfl) rfl) rfl (fun w' hS hV K hK => ?_) ?_
        · simp only [List.mem_cons, List.not_mem_nil, or_false, forall_eq_or_imp, forall_eq, List.getD_cons_succ, List.getD_cons_zero, VIs, VSl, VRow, VAny] at hV
          obtain ⟨e0, e1, e2, e3, e4, e5, e6, e7, e8, ⟨A9, c9, e9, h9⟩, ⟨A10, c10, e10, h10⟩, ⟨A11, c11, e11, h11⟩, e12⟩ := hV
          obtain ⟨q0, q1⟩ := hS.1.two
          go_simp
          exact hK.out _ _ _ rfl rfl rfl (Below.refl _ _)
        simp only [zD, zE, zF]
        refine obs_step (Eq.trans (by simp only [zA, zB, zC]; exact rfl) rfl) rfl (fun w' hS hV K hK => ?_) ?_
        · simp only [List.mem_cons, List.not_mem_nil, or_false, forall_eq_or_imp, forall_eq, List.getD_cons_succ, List.getD_cons_zero, VIs, VSl, VRow, VAny] at hV
          obtain ⟨e0, e1, e2, e3, e4, e5, e6, e7, e8, ⟨A9, c9, e9, h9⟩, ⟨A10, c10, e10, h10⟩, ⟨A11, c11, e11, h11⟩, e12, e13⟩ := hV
          obtain ⟨q0, q1⟩ := hS.1.two
          go_simp
          exact hK.out _ _ _ rfl rfl rfl (Below.refl _ _)
        simp only [zD, zE, zF]
        refine obs_step (Eq.trans (by simp only [zA, zB, zC]; exact rfl) rfl) rfl (fun w' hS hV K hK => ?_) ?_
        · simp only [List.mem_cons, List.not_mem_nil, or_false, forall_eq_or_imp, forall_eq, List.getD_cons_succ, List.getD_cons_zero, VIs, VSl, VRow, VAny] at hV
          obtain ⟨e0, e1, e2, e3, e4, e5, e6, e7, e8, ⟨A9, c9, e9, h9⟩, ⟨A10, c10, e10, h10⟩, ⟨A11, c11, e11, h11⟩, e12, e13, e14⟩ := hV
          obtain ⟨q0, q1⟩ := hS.1.two
          go_simp
          exact hK.out _ _ _ rfl rfl rfl (Below.refl _ _)
        simp only [zD, zE, zF]
        refine obs_step (Eq.trans (by simp only [zA, zB, zC]; exact rfl) rfl) rfl (fun w' hS hV K hK => ?_) ?_
        · simp only [List.mem_cons, List.not_mem_nil, or_false, forall_eq_or_imp, forall_eq, List.getD_cons_succ, List.getD_cons_zero, VIs, VSl, VRow, VAny] at hV
          obtain ⟨e0, e1, e2, e3, e4, e5, e6, e7, e8, ⟨A9, c9, e9, h9⟩, ⟨A10, c10, e10, h10⟩, ⟨A11, c11, e11, h11⟩, e12, e13, e14, e15⟩ := hV
          obtain ⟨q0, q1⟩ := hS.1.two
          go_simp
          exact hK.out _ _ _ rfl rfl rfl (Below.refl _ _)
        simp only [zD, zE, zF]
        refine obs_step (Eq.trans (by simp only [zA, zB, zC]; exact rfl) rfl) rfl (fun w' hS hV K hK => ?_) ?_
        · simp only [List.mem_cons, List.not_mem_nil, or_false, forall_eq_or_imp, forall_eq, List.getD_cons_succ, List.getD_cons_zero, VIs, VSl, VRow, VAny] at hV
          obtain ⟨e0, e1, e2, e3, e4, e5, e6, e7, e8, ⟨A9, c9, e9, h9⟩, ⟨A10, c10, e10, h10⟩, ⟨A11, c11, e11, h11⟩, e12, e13, e14, e15, e16⟩ := hV
          obtain ⟨q0, q1⟩ := hS.1.two
          go_simp
          exact hK.out _ _ _ rfl rfl rfl (Below.refl _ _)
        simp only [zD, zE, zF]
        refine obs_step (Eq.trans (by simp only [zA, zB, zC]; exact rfl) rfl) rfl (fun w' hS hV K hK => ?_) ?_
        · simp only [List.mem_cons, List.not_mem_nil, or_false, forall_eq_or_imp, forall_eq, List.getD_cons_succ, List.getD_cons_zero, VIs, VSl, VRow, VAny] at hV
          obtain ⟨e0, e1, e2, e3, e4, e5, e6, e7, e8, ⟨A9, c9, e9, h9⟩, ⟨A10, c10, e10, h10⟩, ⟨A11, c11, e11, h11⟩, e12, e13, e14, e15, e16, e17⟩ := hV
          obtain ⟨q0, q1⟩ := hS.1.two
          go_simp
          exact hK.out _ _ _ rfl rfl rfl (Below.refl _ _)
        simp only [zD, zE, zF]
        refine obs_step (Eq.trans (by simp only [zA, zB, zC]; exact rfl) rfl) rfl (fun w' hS hV K hK => ?_) ?_
        · simp only [List.mem_cons, List.not_mem_nil, or_false, forall_eq_or_imp, forall_eq, List.getD_cons_succ, List.getD_cons_zero, VIs, VSl, VRow, VAny] at hV
          obtain ⟨e0, e1, e2, e3, e4, e5, e6, e7, e8, ⟨A9, c9, e9, h9⟩, ⟨A10, c10, e10, h10⟩, ⟨A11, c11, e11, h11⟩, e12, e13, e14, e15, e16, e17, e18⟩ := hV
          obtain ⟨q0, q1⟩ := hS.1.two
          go_simp
          exact hK.out _ _ _ rfl rfl rfl (Below.refl _ _)
        simp only [zD, zE, zF]
        refine obs_step (Eq.trans (by simp only [zA, zB, zC]; exact rfl) rfl) rfl (fun w' hS hV K hK => ?_) ?_
        · simp only [List.mem_cons, List.not_mem_nil, or_false, forall_eq_or_imp, forall_eq, List.getD_cons_succ, List.getD_cons_zero, VIs, VSl, VRow, VAny] at hV
          obtain ⟨e0, e1, e2, e3, e4, e5, e6, e7, e8, ⟨A9, c9, e9, h9⟩, ⟨A10, c10, e10, h10⟩, ⟨A11, c11, e11, h11⟩, e12, e13, e14, e15, e16, e17, e18⟩ := hV
          obtain ⟨q0, q1⟩ := hS.1.two
          go_simp
          exact hK.out _ _ _ rfl rfl rfl (Below.refl _ _)
        simp only [zD, zE, zF]
        refine obs_step (Eq.trans (by simp only [zA, zB, zC]; exact rfl) rfl) rfl (fun w' hS hV K hK => ?_) ?_
        · simp only [List.mem_cons, List.not_mem_nil, or_false, forall_eq_or_imp, forall_eq, List.getD_cons_succ, List.getD_cons_zero, VIs, VSl, VRow, VAny] at hV
          obtain ⟨e0, e1, e2, e3, e4, e5, e6, e7, e8, ⟨A9, c9, e9, h9⟩, ⟨A10, c10, e10, h10⟩, ⟨A11, c11, e11, h11⟩, e12, e13, e14, e15, e16, e17, e18, e20⟩ := hV
          obtain ⟨q0, q1⟩ := hS.1.two
          go_simp
          exact hK.out _ _ _ rfl rfl rfl (Below.refl _ _)
        simp only [zD, zE, zF]
        refine obs_step (Eq.trans (by simp only [zA, zB, zC]; exact rfl) rfl) rfl (fun w' hS hV K hK => ?_) ?_
        · simp only [List.mem_cons, List.not_mem_nil, or_false, forall_eq_or_imp, forall_eq, List.getD_cons_succ, List.getD_cons_zero, VIs, VSl, VRow, VAny] at hV
          obtain ⟨e0, e1, e2, e3, e4, e5, e6, e7, e8, ⟨A9, c9, e9, h9⟩, ⟨A10, c10, e10, h10⟩, ⟨A11, c11, e11, h11⟩, e12, e13, e14, e15, e16, e17, e18, e19, e20, e21⟩ := hV
          obtain ⟨q0, q1⟩ := hS.1.two
          go_simp
          exact hK.out _ _ _ rfl rfl rfl (Below.refl _ _)
        simp only [zD, zE, zF]
        refine obs_step (Eq.trans (by simp only [zA, zB, zC]; exact rfl) rfl) rfl (fun w' hS hV K hK => ?_) ?_
        · simp only [List.mem_cons, List.not_mem_nil, or_false, forall_eq_or_imp, forall_eq, List.getD_cons_succ, List.getD_cons_zero, VIs, VSl, VRow, VAny] at hV
          obtain ⟨e0, e1, e2, e3, e4, e5, e6, e7, e8, ⟨A9, c9, e9, h9⟩, ⟨A10, c10, e10, h10⟩, ⟨A11, c11, e11, h11⟩, e12, e13, e14, e15, e16, e17, e18, e19, e20, e21, e22⟩ := hV
          obtain ⟨q0, q1⟩ := hS.1.two
          go_simp
          exact hK.out _ _ _ rfl rfl rfl (Below.refl _ _)
        simp only [zD, zE, zF]
        refine obs_step (Eq.trans (by simp only [zA, zB, zC]; exact rfl) rfl) rfl (fun w' hS hV K hK => ?_) ?_
        · simp only [List.mem_cons, List.not_mem_nil, or_false, forall_eq_or_imp, forall_eq, List.getD_cons_succ, List.getD_cons_zero, VIs, VSl, VRow, VAny] at hV
          obtain ⟨e0, e1, e2, e3, e4, e5, e6, e7, e8, ⟨A9, c9, e9, h9⟩, ⟨A10, c10, e10, h10⟩, ⟨A11, c11, e11, h11⟩, e12, e13, e14, e15, e16, e17, e18, e19, e20, e21, e22, e23⟩ := hV
          obtain ⟨q0, q1⟩ := hS.1.two
          go_simp
          exact hK.out _ _ _ rfl rfl rfl (Below.refl _ _)
        simp only [zD, zE, zF]
        refine fun w' hS hV => ?_
        have hV := fun i hi => hV i (List.mem_range.1 hi)
        simp only [List.range, List.range.loop, List.mem_cons, List.not_mem_nil, or_false, forall_eq_or_imp, forall_eq, List.getD_cons_succ, List.getD_cons_zero, VIs, VSl, VRow, VAny] at hV
        obtain ⟨e0, e1, e2, e3, e4, e5, e6, e7, e8, ⟨A9, c9, e9, h9⟩, ⟨A10, c10, e10, h10⟩, ⟨A11, c11, e11, h11⟩, e12, e13, e14, e15, e16, e17, e18, e19, e20, e21, e22, e23, e24⟩ := hV
        simp only [e0, e1, e2, e3, e4, e5, e6, e7, e8, e9, e10, e11, e12, e13, e14, e15, e16, e17, e18, e19, e20, e21, e22, e23, e24]
        clear e0 e1 e2 e3 e4 e5 e6 e7 e8 e9 e10 e11 e12 e13 e14 e15 e16 e17 e18 e19 e20 e21 e22 e23 e24
        refine wpAny_done (by kernel_rfl) ?_ _
        have hB3 := hS.2
        have k3 := hS.1
        clear hS k2 hB2
        obtain ⟨q0, q1⟩ := k3.two
        go_wp2_with fail
        refine (dim_any _ _ _ _ _).mono ?_
        rintro e w4 ⟨rfl, hb4⟩
        have hB4 := hB3.trans (hb4.mono hB3.size)
        have k4 := k3.below hb4 k3.lt
        clear q0 q1 k3 hB3
        go_wp2_with fail
        refine (unit_any n _ (by omega)).mono ?_
        rintro e w5 ⟨U, cu, rfl, hU⟩
        have hB5 := hB4.trans (hU.b.mono hB4.size)
        have k5 := k4.below hU.b k4.lt
        have hUR := hU.rd
        have HUT := Lib.hid (fun i hi => @unitM_getD n i hi)
        clear k4 hB4 hU hb4
        go_wp2_with fail
        go_loopw [10, 53] (fun _ i wr => ∃ k : Nat, k ≤ n ∧ i = .int .i64 k ∧ (List.range k).all (fun i => onlyL (imgL P sq n xs i) 1) = true ∧ Blk wr w.heap.size 26 #[.int .i64 P, .slice A n c] ∧ Below w.heap.size w wr ∧ Below w5.heap.size w5 wr) (fun _ i _ => n - (intOf i).toNat)
        case atStart => exact ⟨0, by omega, rfl, rfl, k5, hB5, Below.refl _ _⟩
        case round =>
          obtain ⟨k, hk, rfl, hal, hk3, hBr, hB5r⟩ := hrel
          have HAL := Lib.hid hal
          clear hal k5 hB5
          by_cases hlt : k < n
          · obtain ⟨gu, ou, rfl, hxk, A3, c3, hcu, hv0, hcc⟩ := (hUR.below hB5r).at_ hlt
            have hv := hv0
            rw [unitM_get, unitRow_len] at hv hcc
            rw [unitM_get, unitRow_len] at hcu
            clear hv0
            have HU := unitRow_nums hp n k
            have HT3 : Hid (timesL P sq n [invoL P xs, vecTo n (unitRow n k) n, revL P xs] = imgL P sq n xs k) := Lib.hid (timesL_three P sq n _ _ _ (by unfold invoL; rw [sgnL_len, hx.lenI]) (sgnL_nums (by omega) oddT hxs))
            cases ho : onlyL (imgL P sq n xs k) 1
            · have HO : Hid (onlyL (timesL P sq n [invoL P xs, vecTo n (unitRow n k) n, revL P xs]) 1 = false) := Lib.hid (by rw [HT3.out]; exact ho)
              have H4 := Lib.hid ho
              clear ho
              go_wp2
              refine wp_obs 14 [[], [], [], [1, 2], [], [], [4, 5], [], [], [7, 8], [1, 2, 3, 4, 5, 6, 7, 8, 9], [0, 1, 2, 3, 4, 5, 6, 7, 8, 9, 10], [0, 1, 2, 3, 4, 5, 6, 7, 8, 9, 10, 11], [0, 1, 2, 3, 4, 5, 6, 7, 8, 9, 10, 11, 12]] [VIs (.agg #[.int .i64 P, .slice A n c]), VIs (.agg #[.int .i64 P, .slice A n c]), VIs (.slice X (pw n) cx), VSl w (pw n) (invoL P xs), VIs (.agg #[.int .i64 P, .slice A n c]), VIs (.slice A3 n c3), VSl w (pw n) (vecTo n (unitRow n k) n), VIs (.agg #[.int .i64 P, .slice A n c]), VIs (.slice X (pw n) cx), VSl w (pw n) (revL P xs), VRow 3 [(invoL P xs), (vecTo n (unitRow n k) n), (revL P xs)], VSl w (pw n) (timesL P sq n [(invoL P xs), (vecTo n (unitRow n k) n), (revL P xs)]), VIs (.bool false), VIs (.bool true)] (fun w' => Blk w' w.heap.size 26 #[.int .i64 P, .slice A n c] ∧ Below w.heap.size w w' ∧ Below wr.heap.size wr w') (by kernel_rfl) (by kernel_rfl) (fun _ _ h hb => ⟨h.1.below hb h.1.lt, h.2.1.trans (hb.mono h.2.1.size), h.2.2.trans (hb.mono h.2.2.size)⟩) (⟨hk3.drew, hBr.drew, (Below.refl _ _).drew⟩) (fun x => ?_)
              refine obs_step (Eq.trans (by simp only [zA, zC]; exact rfl) rfl) rfl (fun w' hS hV K hK => ?_) ?_
              · obtain ⟨q0, q1⟩ := hS.1.two
                go_simp
                exact hK.out _ _ _ rfl rfl rfl (Below.refl _ _)
              simp only [zD, zE, zF]
              refine obs_step (Eq.trans (by simp only [zA, zB, zC]; exact rfl) rfl) rfl (fun w' hS hV K hK => ?_) ?_
              · obtain ⟨q0, q1⟩ := hS.1.two
                go_simp
                exact hK.out _ _ _ rfl rfl rfl (Below.refl _ _)
              simp only [zD, zE, zF]
              refine obs_step (Eq.trans (by simp only [zA, zB, zC]; exact rfl) rfl) rfl (fun w' hS hV K hK => ?_) ?_
              · obtain ⟨q0, q1⟩ := hS.1.two
                go_simp
                exact hK.out _ _ _ rfl rfl rfl (Below.refl _ _)
              simp only [zD, zE, zF]
              refine obs_step (Eq.trans (by simp only [zA, zB, zC]; exact rfl) rfl) rfl (fun w' hS hV K hK => ?_) ?_
              · simp only [List.mem_cons, List.not_mem_nil, or_false, forall_eq_or_imp, forall_eq, List.getD_cons_succ, List.getD_cons_zero, VIs, VSl, VRow, VAny] at hV
                obtain ⟨e1, e2⟩ := hV
                obtain ⟨q0, q1⟩ := hS.1.two
                go_simp
                refine (involute_any P A n c _ (pw n) _ xs _ hp hp2 HPW64 (hx.below hS.2.1) hxs).mono ?_
                rintro e w1 ⟨A2, c2, rfl, hM⟩
                exact hK.out _ _ _ rfl rfl ⟨_, _, rfl, hM.after hS.2.1⟩ hM.b
              simp only [zD, zE, zF]
              refine obs_step (Eq.trans (by simp only [zA, zB, zC]; exact rfl) rfl) rfl (fun w' hS hV K hK => ?_) ?_
              · obtain ⟨q0, q1⟩ := hS.1.two
                go_simp
                exact hK.out _ _ _ rfl rfl rfl (Below.refl _ _)
              simp only [zD, zE, zF]
              refine obs_step (Eq.trans (by simp only [zA, zB, zC]; exact rfl) rfl) rfl (fun w' hS hV K hK => ?_) ?_
              · obtain ⟨q0, q1⟩ := hS.1.two
                go_simp
                exact hK.out _ _ _ rfl rfl rfl (Below.refl _ _)
              simp only [zD, zE, zF]
              refine obs_step (Eq.trans (by simp only [zA, zB, zC]; exact rfl) rfl) rfl (fun w' hS hV K hK => ?_) ?_
              · simp only [List.mem_cons, List.not_mem_nil, or_false, forall_eq_or_imp, forall_eq, List.getD_cons_succ, List.getD_cons_zero, VIs, VSl, VRow, VAny] at hV
                obtain ⟨e4, e5⟩ := hV
                obtain ⟨q0, q1⟩ := hS.1.two
                go_simp
                refine (vector_any P A n c _ _ (unitRow n k) _ (by omega) (hv.below hS.2.2)).mono ?_
                rintro e w1 ⟨A2, c2, rfl, hM⟩
                exact hK.out _ _ _ rfl rfl ⟨_, _, rfl, hM.after hS.2.1⟩ hM.b
              simp only [zD, zE, zF]
              refine obs_step (Eq.trans (by simp only [zA, zB, zC]; exact rfl) rfl) rfl (fun w' hS hV K hK => ?_) ?_
              · obtain ⟨q0, q1⟩ := hS.1.two
                go_simp
                exact hK.out _ _ _ rfl rfl rfl (Below.refl _ _)
              simp only [zD, zE, zF]
              refine obs_step (Eq.trans (by simp only [zA, zB, zC]; exact rfl) rfl) rfl (fun w' hS hV K hK => ?_) ?_
              · obtain ⟨q0, q1⟩ := hS.1.two
                go_simp
                exact hK.out _ _ _ rfl rfl rfl (Below.refl _ _)
              simp only [zD, zE, zF]
              refine obs_step (Eq.trans (by simp only [zA, zB, zC]; exact rfl) rfl) rfl (fun w' hS hV K hK => ?_) ?_
              · simp only [List.mem_cons, List.not_mem_nil, or_false, forall_eq_or_imp, forall_eq, List.getD_cons_succ, List.getD_cons_zero, VIs, VSl, VRow, VAny] at hV
                obtain ⟨e7, e8⟩ := hV
                obtain ⟨q0, q1⟩ := hS.1.two
                go_simp
                refine (reverse_any P A n c _ (pw n) _ xs _ hp hp2 HPW64 (hx.below hS.2.1) hxs).mono ?_
                rintro e w1 ⟨A2, c2, rfl, hM⟩
                exact hK.out _ _ _ rfl rfl ⟨_, _, rfl, hM.after hS.2.1⟩ hM.b
              simp only [zD, zE, zF]
              refine obs_step (Eq.trans (by simp only [zA, zB, zC]; exact rfl) rfl) rfl (fun w' hS hV K hK => ?_) ?_
              · simp only [List.mem_cons, List.not_mem_nil, or_false, forall_eq_or_imp, forall_eq, List.getD_cons_succ, List.getD_cons_zero, VIs, VSl, VRow, VAny] at hV
                obtain ⟨e1, e2, ⟨A3, c3, e3, h3⟩, e4, e5, ⟨A6, c6, e6, h6⟩, e7, e8, ⟨A9, c9, e9, h9⟩⟩ := hV
                obtain ⟨q0, q1⟩ := hS.1.two
                go_simp
                exact hK.out _ _ _ rfl rfl ⟨_, _, rfl, rdII_three (Blk.new _ _ _) (Rd.below (h3.rd) ((Below.refl _ _).alloc (Nat.le_refl _) _)) (Rd.below (h6.rd) ((Below.refl _ _).alloc (Nat.le_refl _) _)) (Rd.below (h9.rd) ((Below.refl _ _).alloc (Nat.le_refl _) _)) (h3.2.cap) (h6.2.cap) (h9.2.cap)⟩ ((Below.refl _ _).alloc (Nat.le_refl _) _)
              simp only [zD, zE, zF]
              refine obs_step (Eq.trans (by simp only [zA, zB, zC]; exact rfl) rfl) rfl (fun w' hS hV K hK => ?_) ?_
              · simp only [List.mem_cons, List.not_mem_nil, or_false, forall_eq_or_imp, forall_eq, List.getD_cons_succ, List.getD_cons_zero, VIs, VSl, VRow, VAny] at hV
                obtain ⟨e0, e1, e2, ⟨A3, c3, e3, h3⟩, e4, e5, ⟨A6, c6, e6, h6⟩, e7, e8, ⟨A9, c9, e9, h9⟩, ⟨A10, c10, e10, h10⟩⟩ := hV
                obtain ⟨q0, q1⟩ := hS.1.two
                go_simp
                refine (times_any P A n c sq _ 3 _ [(invoL P xs), (vecTo n (unitRow n k) n), (revL P xs)] _ hp hp2 hn (by omega) (ha.below hS.2.1) hs h10 (all_three ⟨(sgnL_nums (by omega) oddT hxs), Rd.lenI (h3.rd)⟩ ⟨(vecTo_nums (by omega) n (unitRow n k) HU n), Rd.lenI (h6.rd)⟩ ⟨(sgnL_nums (by omega) revT hxs), Rd.lenI (h9.rd)⟩)).mono ?_
                rintro e w1 ⟨A2, c2, rfl, hM⟩
                exact hK.out _ _ _ rfl rfl ⟨_, _, rfl, hM.after hS.2.1⟩ hM.b
              simp only [zD, zE, zF]
              refine obs_step (Eq.trans (by simp only [zA, zB, zC]; exact rfl) rfl) rfl (fun w' hS hV K hK => ?_) ?_
              · simp only [List.mem_cons, List.not_mem_nil, or_false, forall_eq_or_imp, forall_eq, List.getD_cons_succ, List.getD_cons_zero, VIs, VSl, VRow, VAny] at hV
                obtain ⟨e0, e1, e2, ⟨A3, c3, e3, h3⟩, e4, e5, ⟨A6, c6, e6, h6⟩, e7, e8, ⟨A9, c9, e9, h9⟩, ⟨A10, c10, e10, h10⟩, ⟨A11, c11, e11, h11⟩⟩ := hV
                obtain ⟨q0, q1⟩ := hS.1.two
                go_simp
                refine (onlyGrade_b _ _ _ _ _ _ HPW64 h11.rd HO.out).mono ?_
                rintro e w1 ⟨rfl, hb⟩
                exact hK.out _ _ _ rfl rfl rfl hb
              simp only [zD, zE, zF]
              refine obs_step (Eq.trans (by simp only [zA, zB, zC]; exact rfl) rfl) rfl (fun w' hS hV K hK => ?_) ?_
              · simp only [List.mem_cons, List.not_mem_nil, or_false, forall_eq_or_imp, forall_eq, List.getD_cons_succ, List.getD_cons_zero, VIs, VSl, VRow, VAny] at hV
                obtain ⟨e0, e1, e2, ⟨A3, c3, e3, h3⟩, e4, e5, ⟨A6, c6, e6, h6⟩, e7, e8, ⟨A9, c9, e9, h9⟩, ⟨A10, c10, e10, h10⟩, ⟨A11, c11, e11, h11⟩, e12⟩ := hV
                obtain ⟨q0, q1⟩ := hS.1.two
                go_simp
                exact hK.out _ _ _ rfl rfl rfl (Below.refl _ _)
              simp only [zD, zE, zF]
              refine fun w' hS hV => ?_
              have hV := fun i hi => hV i (List.mem_range.1 hi)
              simp only [List.range, List.range.loop, List.mem_cons, List.not_mem_nil, or_false, forall_eq_or_imp, forall_eq, List.getD_cons_succ, List.getD_cons_zero, VIs, VSl, VRow, VAny] at hV
              obtain ⟨e0, e1, e2, ⟨A3, c3, e3, h3⟩, e4, e5, ⟨A6, c6, e6, h6⟩, e7, e8, ⟨A9, c9, e9, h9⟩, ⟨A10, c10, e10, h10⟩, ⟨A11, c11, e11, h11⟩, e12, e13⟩ := hV
              simp only [e0, e1, e2, e3, e4, e5, e6, e7, e8, e9, e10, e11, e12, e13]
              clear e0 e1 e2 e3 e4 e5 e6 e7 e8 e9 e10 e11 e12 e13
              refine wpAny_done (by kernel_rfl) ?_ _
              go_wp2
              go_ret
              refine ⟨ret_bool ?_, hS.2.1⟩
              have : ((List.range n).all fun i => onlyL (imgL P sq n xs i) 1) = false := by
                rw [List.all_eq_false]
                exact ⟨k, by simpa using hlt, by rw [H4.out]; decide⟩
              unfold versB
              rw [this, Bool.and_false]
            · have HO : Hid (onlyL (timesL P sq n [invoL P xs, vecTo n (unitRow n k) n, revL P xs]) 1 = true) := Lib.hid (by rw [HT3.out]; exact ho)
              have H4 := Lib.hid ho
              clear ho
              go_wp2
              refine wp_obs 14 [[], [], [], [1, 2], [], [], [4, 5], [], [], [7, 8], [1, 2, 3, 4, 5, 6, 7, 8, 9], [0, 1, 2, 3, 4, 5, 6, 7, 8, 9, 10], [0, 1, 2, 3, 4, 5, 6, 7, 8, 9, 10, 11], [0, 1, 2, 3, 4, 5, 6, 7, 8, 9, 10, 11, 12]] [VIs (.agg #[.int .i64 P, .slice A n c]), VIs (.agg #[.int .i64 P, .slice A n c]), VIs (.slice X (pw n) cx), VSl w (pw n) (invoL P xs), VIs (.agg #[.int .i64 P, .slice A n c]), VIs (.slice A3 n c3), VSl w (pw n) (vecTo n (unitRow n k) n), VIs (.agg #[.int .i64 P, .slice A n c]), VIs (.slice X (pw n) cx), VSl w (pw n) (revL P xs), VRow 3 [(invoL P xs), (vecTo n (unitRow n k) n), (revL P xs)], VSl w (pw n) (timesL P sq n [(invoL P xs), (vecTo n (unitRow n k) n), (revL P xs)]), VIs (.bool true), VIs (.bool false)] (fun w' => Blk w' w.heap.size 26 #[.int .i64 P, .slice A n c] ∧ Below w.heap.size w w' ∧ Below wr.heap.size wr w') (by kernel_rfl) (by kernel_rfl) (fun _ _ h hb => ⟨h.1.below hb h.1.lt, h.2.1.trans (hb.mono h.2.1.size), h.2.2.trans (hb.mono h.2.2.size)⟩) (⟨hk3.drew, hBr.drew, (Below.refl _ _).drew⟩) (fun x => ?_)
              refine obs_step (Eq.trans (by simp only [zA, zC]; exact rfl) rfl) rfl (fun w' hS hV K hK => ?_) ?_
              · obtain ⟨q0, q1⟩ := hS.1.two
                go_simp
                exact hK.out _ _ _ rfl rfl rfl (Below.refl _ _)
              simp only [zD, zE, zF]
              refine obs_step (Eq.trans (by simp only [zA, zB, zC]; exact rfl) rfl) rfl (fun w' hS hV K hK => ?_) ?_
              · obtain ⟨q0, q1⟩ := hS.1.two
                go_simp
                exact hK.out _ _ _ rfl rfl rfl (Below.refl _ _)
              simp only [zD, zE, zF]
              refine obs_step (Eq.trans (by simp only [zA, zB, zC]; exact rfl) rfl) rfl (fun w' hS hV K hK => ?_) ?_
              · obtain ⟨q0, q1⟩ := hS.1.two
                go_simp
                exact hK.out _ _ _ rfl rfl rfl (Below.refl _ _)
              simp only [zD, zE, zF]
              refine obs_step (Eq.trans (by simp only [zA, zB, zC]; exact rfl) rfl) rfl (fun w' hS hV K hK => ?_) ?_
              · simp only [List.mem_cons, List.not_mem_nil, or_false, forall_eq_or_imp, forall_eq, List.getD_cons_succ, List.getD_cons_zero, VIs, VSl, VRow, VAny] at hV
                obtain ⟨e1, e2⟩ := hV
                obtain ⟨q0, q1⟩ := hS.1.two
                go_simp
                refine (involute_any P A n c _ (pw n) _ xs _ hp hp2 HPW64 (hx.below hS.2.1) hxs).mono ?_
                rintro e w1 ⟨A2, c2, rfl, hM⟩
                exact hK.out _ _ _ rfl rfl ⟨_, _, rfl, hM.after hS.2.1⟩ hM.b
              simp only [zD, zE, zF]
              refine obs_step (Eq.trans (by simp only [zA, zB, zC]; exact rfl) rfl) rfl (fun w' hS hV K hK => ?_) ?_
              · obtain ⟨q0, q1⟩ := hS.1.two
                go_simp
                exact hK.out _ _ _ rfl rfl rfl (Below.refl _ _)
              simp only [zD, zE, zF]
              refine obs_step (Eq.trans (by simp only [zA, zB, zC]; exact rfl) rfl) rfl (fun w' hS hV K hK => ?_) ?_
              · obtain ⟨q0, q1⟩ := hS.1.two
                go_simp
                exact hK.out _ _ _ rfl rfl rfl (Below.refl _ _)
              simp only [zD, zE, zF]
              refine obs_step (Eq.trans (by simp only [zA, zB, zC]; exact rfl) rfl) rfl (fun w' hS hV K hK => ?_) ?_
              · simp only [List.mem_cons, List.not_mem_nil, or_false, forall_eq_or_imp, forall_eq, List.getD_cons_succ, List.getD_cons_zero, VIs, VSl, VRow, VAny] at hV
                obtain ⟨e4, e5⟩ := hV
                obtain ⟨q0, q1⟩ := hS.1.two
                go_simp
                refine (vector_any P A n c _ _ (unitRow n k) _ (by omega) (hv.below hS.2.2)).mono ?_
                rintro e w1 ⟨A2, c2, rfl, hM⟩
                exact hK.out _ _ _ rfl rfl ⟨_, _, rfl, hM.after hS.2.1⟩ hM.b
              simp only [zD, zE, zF]
              refine obs_step (Eq.trans (by simp only [zA, zB, zC]; exact rfl) rfl) rfl (fun w' hS hV K hK => ?_) ?_
              · obtain ⟨q0, q1⟩ := hS.1.two
                go_simp
                exact hK.out _ _ _ rfl rfl rfl (Below.refl _ _)
              simp only [zD, zE, zF]
              refine obs_step (Eq.trans (by simp only [zA, zB, zC]; exact rfl) rfl) rfl (fun w' hS hV K hK => ?_) ?_
              · obtain ⟨q0, q1⟩ := hS.1.two
                go_simp
                exact hK.out _ _ _ rfl rfl rfl (Below.refl _ _)
              simp only [zD, zE, zF]
              refine obs_step (Eq.trans (by simp only [zA, zB, zC]; exact rfl) rfl) rfl (fun w' hS hV K hK => ?_) ?_
              · simp only [List.mem_cons, List.not_mem_nil, or_false, forall_eq_or_imp, forall_eq, List.getD_cons_succ, List.getD_cons_zero, VIs, VSl, VRow, VAny] at hV
                obtain ⟨e7, e8⟩ := hV
                obtain ⟨q0, q1⟩ := hS.1.two
                go_simp
                refine (reverse_any P A n c _ (pw n) _ xs _ hp hp2 HPW64 (hx.below hS.2.1) hxs).mono ?_
                rintro e w1 ⟨A2, c2, rfl, hM⟩
                exact hK.out _ _ _ rfl rfl ⟨_, _, rfl, hM.after hS.2.1⟩ hM.b
              simp only [zD, zE, zF]
              refine obs_step (Eq.trans (by simp only [zA, zB, zC]; exact rfl) rfl) rfl (fun w' hS hV K hK => ?_) ?_
              · simp only [List.mem_cons, List.not_mem_nil, or_false, forall_eq_or_imp, forall_eq, List.getD_cons_succ, List.getD_cons_zero, VIs, VSl, VRow, VAny] at hV
                obtain ⟨e1, e2, ⟨A3, c3, e3, h3⟩, e4, e5, ⟨A6, c6, e6, h6⟩, e7, e8, ⟨A9, c9, e9, h9⟩⟩ := hV
                obtain ⟨q0, q1⟩ := hS.1.two
                go_simp
                exact hK.out _ _ _ rfl rfl ⟨_, _, rfl, rdII_three (Blk.new _ _ _) (Rd.below (h3.rd) ((Below.refl _ _).alloc (Nat.le_refl _) _)) (Rd.below (h6.rd) ((Below.refl _ _).alloc (Nat.le_refl _) _)) (Rd.below (h9.rd) ((Below.refl _ _).alloc (Nat.le_refl _) _)) (h3.2.cap) (h6.2.cap) (h9.2.cap)⟩ ((Below.refl _ _).alloc (Nat.le_refl _) _)
              simp only [zD, zE, zF]
              refine obs_step (Eq.trans (by simp only [zA, zB, zC]; exact rfl) rfl) rfl (fun w' hS hV K hK => ?_) ?_
              · simp only [List.mem_cons, List.not_mem_nil, or_false, forall_eq_or_imp, forall_eq, List.getD_cons_succ, List.getD_cons_zero, VIs, VSl, VRow, VAny] at hV
                obtain ⟨e0, e1, e2, ⟨A3, c3, e3, h3⟩, e4, e5, ⟨A6, c6, e6, h6⟩, e7, e8, ⟨A9, c9, e9, h9⟩, ⟨A10, c10, e10, h10⟩⟩ := hV
                obtain ⟨q0, q1⟩ := hS.1.two
                go_simp
                refine (times_any P A n c sq _ 3 _ [(invoL P xs), (vecTo n (unitRow n k) n), (revL P xs)] _ hp hp2 hn (by omega) (ha.below hS.2.1) hs h10 (all_three ⟨(sgnL_nums (by omega) oddT hxs), Rd.lenI (h3.rd)⟩ ⟨(vecTo_nums (by omega) n (unitRow n k) HU n), Rd.lenI (h6.rd)⟩ ⟨(sgnL_nums (by omega) revT hxs), Rd.lenI (h9.rd)⟩)).mono ?_
                rintro e w1 ⟨A2, c2, rfl, hM⟩
                exact hK.out _ _ _ rfl rfl ⟨_, _, rfl, hM.after hS.2.1⟩ hM.b
              simp only [zD, zE, zF]
              refine obs_step (Eq.trans (by simp only [zA, zB, zC]; exact rfl) rfl) rfl (fun w' hS hV K hK => ?_) ?_
              · simp only [List.mem_cons, List.not_mem_nil, or_false, forall_eq_or_imp, forall_eq, List.getD_cons_succ, List.getD_cons_zero, VIs, VSl, VRow, VAny] at hV
                obtain ⟨e0, e1, e2, ⟨A3, c3, e3, h3⟩, e4, e5, ⟨A6, c6, e6, h6⟩, e7, e8, ⟨A9, c9, e9, h9⟩, ⟨A10, c10, e10, h10⟩, ⟨A11, c11, e11, h11⟩⟩ := hV
                obtain ⟨q0, q1⟩ := hS.1.two
                go_simp
                refine (onlyGrade_b _ _ _ _ _ _ HPW64 h11.rd HO.out).mono ?_
                rintro e w1 ⟨rfl, hb⟩
                exact hK.out _ _ _ rfl rfl rfl hb
              simp only [zD, zE, zF]
              refine obs_step (Eq.trans (by simp only [zA, zB, zC]; exact rfl) rfl) rfl (fun w' hS hV K hK => ?_) ?_
              · simp only [List.mem_cons, List.not_mem_nil, or_false, forall_eq_or_imp, forall_eq, List.getD_cons_succ, List.getD_cons_zero, VIs, VSl, VRow, VAny] at hV
                obtain ⟨e0, e1, e2, ⟨A3, c3, e3, h3⟩, e4, e5, ⟨A6, c6, e6, h6⟩, e7, e8, ⟨A9, c9, e9, h9⟩, ⟨A10, c10, e10, h10⟩, ⟨A11, c11, e11, h11⟩, e12⟩ := hV
                obtain ⟨q0, q1⟩ := hS.1.two
                go_simp
                exact hK.out _ _ _ rfl rfl rfl (Below.refl _ _)
              simp only [zD, zE, zF]
              refine fun w' hS hV => ?_
              have hV := fun i hi => hV i (List.mem_range.1 hi)
              simp only [List.range, List.range.loop, List.mem_cons, List.not_mem_nil, or_false, forall_eq_or_imp, forall_eq, List.getD_cons_succ, List.getD_cons_zero, VIs, VSl, VRow, VAny] at hV
              obtain ⟨e0, e1, e2, ⟨A3, c3, e3, h3⟩, e4, e5, ⟨A6, c6, e6, h6⟩, e7, e8, ⟨A9, c9, e9, h9⟩, ⟨A10, c10, e10, h10⟩, ⟨A11, c11, e11, h11⟩, e12, e13⟩ := hV
              simp only [e0, e1, e2, e3, e4, e5, e6, e7, e8, e9, e10, e11, e12, e13]
              clear e0 e1 e2 e3 e4 e5 e6 e7 e8 e9 e10 e11 e12 e13
              refine wpAny_done (by kernel_rfl) ?_ _
              go_wp2
              go_roundw
              case rel => exact ⟨k + 1, by omega, by go_num, by rw [List.range_succ, List.all_append, HAL.out]; simp [H4.out], hS.1, hS.2.1, hB5r.trans (hS.2.2.mono hB5r.size)⟩
              case measure => simp [intOf]; omega
          · obtain rfl : k = n := by omega
            go_wp2
            go_ret
            exact ⟨ret_bool (by unfold versB; rw [H1.out, H2.out, H3.out, HAL.out]; rfl), hBr⟩
theorem isVersor_any (P : Int) (A : Option Addr) (n c : Nat) (sq : List Int) (X : Option Addr) (cx : Nat) (xs : List Int) (w : World) (hp : 2 ≤ P) (hp2 : P ≤ 13) (hn : n ≤ 6) (ha : Rd w A n (ints sq)) (hs : NumsL P sq) (hx : Rd w X (pw n) (ints xs)) (hxs : NumsL P xs) (hcx : pw n ≤ cx) :
    Calls Tryz.prog 160 #[.agg #[.int .i64 P, .slice A n c], .slice X (pw n) cx] w fun e w' => e = .returned (.bool (versB P sq n xs)) ∧ Below w.heap.size w w' := by
  by_cases h1 : nrmL P sq xs = 0
  · exact isVersor_A P A n c sq X cx xs w hp hp2 hn ha hs hx hxs hcx h1
  · cases h2 : onlyL (mulL P sq xs (revL P xs)) 0
    · exact isVersor_B P A n c sq X cx xs w hp hp2 hn ha hs hx hxs hcx h1 h2
    · cases h3 : mixB (gradesL xs)
      · by_cases h4 : cntO (gradesL xs) = 0
        · exact isVersor_D P A n c sq X cx xs w hp hp2 hn ha hs hx hxs hcx h1 h2 h3 h4
        · exact isVersor_E P A n c sq X cx xs w hp hp2 hn ha hs hx hxs hcx h1 h2 h3 h4
      · exact isVersor_C P A n c sq X cx xs w hp hp2 hn ha hs hx hxs hcx h1 h2 h3
end Go.Proofs.YtdbibmilicjllaaGreat

/-
  LawCommonBlade: part 5 of the texts that the proof needs. No condition.
-/
import Derived.Test.YtommppijnccomaaGreatP4
namespace Go.Proofs.YtommppijnccomaaGreat
open Go.RowKit
theorem lengthS_any (A : Option Addr) (n c : Nat) (w : World) :
    Calls Tryz.prog 96 #[.slice A n c] w fun e w' => e = .returned (.int .i64 n) ∧ w = w' := by
  go_enter Tryz.func96, Tryz.ntmps96
  go_wp2
  go_ret
  exact ⟨rfl, rfl⟩
theorem isMu_spec3 {P : Int} {sq ys : List Int} (h : isMu P sq ys = true) : ys.length = pw sq.length ∧ NumsL P ys := by
  unfold isMu at h
  simp only [Bool.and_eq_true, beq_iff_eq] at h
  exact ⟨by have := h.1; omega, nums_numsL h.2⟩
theorem codeM_spec3 {P : Int} {sq : List Int} {ms : List (List Int)} (h : codeM P sq ms = 0) : isP P = true ∧ 2 ≤ P ∧ P ≤ 13 ∧ 1 ≤ sq.length ∧ sq.length ≤ 6 ∧ NumsL P sq ∧ ∀ ys ∈ ms, ys.length = pw sq.length ∧ NumsL P ys := by
  obtain ⟨h1, h2⟩ := codeM_sp h
  obtain ⟨hp, hd1, hd2, hnum⟩ := isSp_dim h1
  have := isP_ge hp
  exact ⟨hp, by omega, by omega, hd1, hd2, nums_numsL hnum, fun ys hy => isMu_spec3 (h2 ys hy)⟩
/-- Is it a blade of vectors? -/
def isBl (P : Int) (sq : List Int) (n : Nat) (xs : List Int) : Bool := decide ((gradesL xs).length = 1) && decide ((((subL P sq n xs).length : Nat) : Int) = (gradesL xs).getD 0 0)
/-- The code of a space and blades. -/
def codeL (P : Int) (sq : List Int) (ms : List (List Int)) : Int := if codeM P sq ms = 0 then (if ms.all (isBl P sq sq.length) then 0 else 5) else codeM P sq ms
theorem codeL_zero {P : Int} {sq : List Int} {ms : List (List Int)} (h : codeL P sq ms = 0) : codeM P sq ms = 0 ∧ ms.all (isBl P sq sq.length) = true := by
  unfold codeL at h
  by_cases h1 : codeM P sq ms = 0
  · rw [if_pos h1] at h
    by_cases h2 : ms.all (isBl P sq sq.length) = true
    · exact ⟨h1, h2⟩
    · rw [if_neg h2] at h; exact absurd h (by omega)
  · rw [if_neg h1] at h; exact absurd h h1
theorem codeL_bad {P : Int} {sq : List Int} {ms : List (List Int)} (h : codeM P sq ms = 0) {xs : List Int} (hm : xs ∈ ms) (hx : isBl P sq sq.length xs = false) : codeL P sq ms = 5 := by
  unfold codeL
  rw [if_pos h, if_neg]
  intro hall
  have := List.all_eq_true.1 hall xs hm
  rw [hx] at this
  cases this
theorem codeL_good {P : Int} {sq : List Int} {ms : List (List Int)} (h : codeM P sq ms = 0) (hall : ms.all (isBl P sq sq.length) = true) : codeL P sq ms = 0 := by
  unfold codeL
  rw [if_pos h, if_pos hall]
theorem codeL_ne {P : Int} {sq : List Int} {ms : List (List Int)} (h : ¬ codeM P sq ms = 0) : codeL P sq ms = codeM P sq ms := by
  unfold codeL
  rw [if_neg h]
theorem all_take3 {α : Type} {f : α → Bool} {xs : List α} {k : Nat} (hk : k < xs.length) (h : (xs.take k).all f = true) (hf : f xs[k] = true) : (xs.take (k + 1)).all f = true := by
  rw [List.take_succ_eq_append_getElem hk, List.all_append, h]
  simp [hf]
set_option maxHeartbeats 3200000 in
set_option maxRecDepth 8000 in
theorem isBlade_any (P : Int) (A : Option Addr) (n c : Nat) (sq : List Int) (X : Option Addr) (cx : Nat) (xs : List Int) (w : World) (HP : isP P = true) (hn : n ≤ 6) (h0 : 0 < n) (ha : Rd w A n (ints sq)) (hs : NumsL P sq) (hx : Rd w X (pw n) (ints xs)) (hxs : NumsL P xs) :
    Calls Tryz.prog 54 #[.agg #[.int .i64 P, .slice A n c], .slice X (pw n) cx] w fun e w' => e = .returned (.bool (isBl P sq n xs)) ∧ Below w.heap.size w w' := by
  obtain ⟨hp3, hp2⟩ := isP_ge HP
  have hp : 2 ≤ P := by omega
  have hpn := pw_pos n
  have hpw : pw n ≤ 64 := pw_le hn
  have hB0 : Below w.heap.size w (w.alloc (.cells #[.int .i64 P, .slice A n c] 28)) := (Below.refl _ _).alloc (Nat.le_refl _) _
  have k0 : Blk (w.alloc (.cells #[.int .i64 P, .slice A n c] 28)) w.heap.size 28 #[.int .i64 P, .slice A n c] := Blk.new _ _ _
  have hgl := gradesL_len xs
  have hsl := subL_len HP sq n xs
  have hsub := fun w' (hb : Below w.heap.size w w') => subspace_any P A n c sq X cx xs w' HP hn h0 (ha.below hb) hs (hx.below hb) hxs
  have HSUB := Lib.hid hsub
  clear hsub
  obtain ⟨q0, q1⟩ := k0.two
  go_enter Tryz.func54, Tryz.ntmps54
  go_wp2_with fail
  refine (gradesOf_any X (pw n) cx xs _ hpw (hx.below hB0)).mono ?_
  rintro e w1 ⟨G, cg, rfl, hG⟩
  have k1 := k0.below hG.b k0.lt
  have hB1 := hB0.trans (hG.b.mono hB0.size)
  have HGL : Hid ((isBl P sq n xs) = (decide ((gradesL xs).length = 1) && decide ((((subL P sq n xs).length : Nat) : Int) = (gradesL xs).getD 0 0))) := Lib.hid rfl
  have hgr := hG.rd
  obtain ⟨L, hL⟩ : ∃ L, L = gradesL xs := ⟨_, rfl⟩
  rw [← hL] at hgr hgl HGL ⊢
  obtain ⟨q, hq⟩ : ∃ q, q = (subL P sq n xs).length := ⟨_, rfl⟩
  have HQ := Lib.hid hq
  rw [← hq] at HGL hsl
  obtain ⟨m, hm⟩ : ∃ m, m = L.length := ⟨_, rfl⟩
  rw [← hm] at hgr hgl HGL ⊢
  clear k0 hB0 q0 q1 hG hL hq
  have HM := Lib.hid hm
  by_cases h1 : m = 1
  · obtain ⟨gg, og, rfl, hg0, hcg⟩ := hgr.int (show 0 < m by omega)
    have HG0 : Hid (L.getD 0 0 = L[0]) := Lib.hid (getD_of_lt 0 hg0)
    rw [Nat.add_zero] at hcg
    obtain ⟨gv, hgv⟩ : ∃ v, v = L[0] := ⟨_, rfl⟩
    rw [← hgv] at hcg HG0
    clear hgv hg0 hgr hm
    have HZ0 : Hid (isBl P sq n xs = (((q : Nat) : Int) == gv)) := Lib.hid (by rw [HGL.out, HG0.out, h1, Bool.eq_iff_iff]; simp)
    cases hz : (((q : Nat) : Int) == gv)
    all_goals
      have HZ := Lib.hid (HZ0.out.trans hz)
      subst h1
    · go_wp2
      refine wp_obs 14 [[], [0], [0, 1], [0, 1, 2], [0, 1, 2, 3], [0, 1, 2, 3], [0, 1, 2, 3, 4, 5], [0, 1, 2, 3, 4, 5, 6], [0, 1, 2, 3], [0, 1, 2, 3, 8], [0, 1, 2, 3, 8, 9], [0, 1, 2, 3, 4, 5, 6, 7, 8, 9, 10], [0, 1, 2, 3, 4, 5, 6, 7, 8, 9, 10, 11], [0, 1, 2, 3, 4, 5, 6, 7, 8, 9, 10, 11, 12]] [VIs (.slice (some ⟨gg, og, none⟩) 1 cg), VIs (.int .i64 ((1 : Nat))), VIs (.bool true), VIs (.bool true), VIs (.agg #[.int .i64 P, .slice A n c]), VIs (.slice X (pw n) cx), VMat w q (subL P sq n xs), VIs (.int .i64 (q)), VIs (.slice (some ⟨gg, og, none⟩) 1 cg), VIs (.pointer (some ⟨gg, og, none⟩)), VIs (.int .i64 (gv)), VIs (.bool false), VIs (.bool false), VIs (.bool false)] (fun w' => w'.cell? ⟨gg, og, none⟩ = some (.int .i64 gv) ∧ Blk w' w.heap.size 28 #[.int .i64 P, .slice A n c] ∧ Below w.heap.size w w') (by kernel_rfl) (by kernel_rfl) (fun _ _ h hb => ⟨(hb.cell (World.block_lt_of_cell? _ _ h.1)).trans h.1, h.2.1.below hb h.2.1.lt, h.2.2.trans (hb.mono h.2.2.size)⟩) (⟨hcg, k1.drew, hB1.drew⟩) (fun x => ?_)
      refine obs_step (Eq.trans (by simp only [List.getElem?_toArray, List.getElem?_cons_zero]; exact rfl) rfl) rfl (fun w' hS hV K hK => ?_) ?_
      · have q2 := hS.1; obtain ⟨q0, q1⟩ := hS.2.1.two
        go_simp
        exact hK.out _ _ _ rfl rfl rfl (Below.refl _ _)
      simp only [List.setIfInBounds_toArray, List.set_cons_zero, List.set_cons_succ]
      refine obs_step (Eq.trans (by simp only [List.getElem?_toArray, List.getElem?_cons_succ, List.getElem?_cons_zero]; exact rfl) rfl) rfl (fun w' hS hV K hK => ?_) ?_
      · have e0 : x 0 = (.slice (some ⟨gg, og, none⟩) 1 cg) := hV 0 (by decide)
        have q2 := hS.1; obtain ⟨q0, q1⟩ := hS.2.1.two
        go_simp
        exact hK.out _ _ _ rfl rfl rfl (Below.refl _ _)
      simp only [List.setIfInBounds_toArray, List.set_cons_zero, List.set_cons_succ]
      refine obs_step (Eq.trans (by simp only [List.getElem?_toArray, List.getElem?_cons_succ, List.getElem?_cons_zero]; exact rfl) rfl) rfl (fun w' hS hV K hK => ?_) ?_
      · have e0 : x 0 = (.slice (some ⟨gg, og, none⟩) 1 cg) := hV 0 (by decide)
        have e1 : x 1 = (.int .i64 ((1 : Nat))) := hV 1 (by decide)
        have q2 := hS.1; obtain ⟨q0, q1⟩ := hS.2.1.two
        go_simp
        exact hK.out _ _ _ rfl rfl rfl (Below.refl _ _)
      simp only [List.setIfInBounds_toArray, List.set_cons_zero, List.set_cons_succ]
      refine obs_step (Eq.trans (by simp only [List.getElem?_toArray, List.getElem?_cons_succ, List.getElem?_cons_zero]; exact rfl) rfl) rfl (fun w' hS hV K hK => ?_) ?_
      · have e0 : x 0 = (.slice (some ⟨gg, og, none⟩) 1 cg) := hV 0 (by decide)
        have e1 : x 1 = (.int .i64 ((1 : Nat))) := hV 1 (by decide)
        have e2 : x 2 = (.bool true) := hV 2 (by decide)
        have q2 := hS.1; obtain ⟨q0, q1⟩ := hS.2.1.two
        go_simp
        exact hK.out _ _ _ rfl rfl rfl (Below.refl _ _)
      simp only [List.setIfInBounds_toArray, List.set_cons_zero, List.set_cons_succ]
      refine obs_step (Eq.trans (by simp only [List.getElem?_toArray, List.getElem?_cons_succ, List.getElem?_cons_zero]; exact rfl) rfl) rfl (fun w' hS hV K hK => ?_) ?_
      · have e0 : x 0 = (.slice (some ⟨gg, og, none⟩) 1 cg) := hV 0 (by decide)
        have e1 : x 1 = (.int .i64 ((1 : Nat))) := hV 1 (by decide)
        have e2 : x 2 = (.bool true) := hV 2 (by decide)
        have e3 : x 3 = (.bool true) := hV 3 (by decide)
        have q2 := hS.1; obtain ⟨q0, q1⟩ := hS.2.1.two
        go_simp
        exact hK.out _ _ _ rfl rfl rfl (Below.refl _ _)
      simp only [List.setIfInBounds_toArray, List.set_cons_zero, List.set_cons_succ]
      refine obs_step (Eq.trans (by simp only [List.getElem?_toArray, List.getElem?_cons_succ, List.getElem?_cons_zero]; exact rfl) rfl) rfl (fun w' hS hV K hK => ?_) ?_
      · have e0 : x 0 = (.slice (some ⟨gg, og, none⟩) 1 cg) := hV 0 (by decide)
        have e1 : x 1 = (.int .i64 ((1 : Nat))) := hV 1 (by decide)
        have e2 : x 2 = (.bool true) := hV 2 (by decide)
        have e3 : x 3 = (.bool true) := hV 3 (by decide)
        have q2 := hS.1; obtain ⟨q0, q1⟩ := hS.2.1.two
        go_simp
        exact hK.out _ _ _ rfl rfl rfl (Below.refl _ _)
      simp only [List.setIfInBounds_toArray, List.set_cons_zero, List.set_cons_succ]
      refine obs_step (Eq.trans (by simp only [List.getElem?_toArray, List.getElem?_cons_succ, List.getElem?_cons_zero]; exact rfl) rfl) rfl (fun w' hS hV K hK => ?_) ?_
      · have e0 : x 0 = (.slice (some ⟨gg, og, none⟩) 1 cg) := hV 0 (by decide)
        have e1 : x 1 = (.int .i64 ((1 : Nat))) := hV 1 (by decide)
        have e2 : x 2 = (.bool true) := hV 2 (by decide)
        have e3 : x 3 = (.bool true) := hV 3 (by decide)
        have e4 : x 4 = (.agg #[.int .i64 P, .slice A n c]) := hV 4 (by decide)
        have e5 : x 5 = (.slice X (pw n) cx) := hV 5 (by decide)
        have q2 := hS.1; obtain ⟨q0, q1⟩ := hS.2.1.two
        go_simp
        refine (HSUB.out _ hS.2.2).mono ?_
        rw [← HQ.out]
        rintro e v1 ⟨A2, c2, rfl, hM⟩
        exact hK.out _ _ _ rfl rfl ⟨_, _, rfl, hM.after hS.2.2⟩ hM.b
      simp only [List.setIfInBounds_toArray, List.set_cons_zero, List.set_cons_succ]
      refine obs_step (Eq.trans (by simp only [List.getElem?_toArray, List.getElem?_cons_succ, List.getElem?_cons_zero]; exact rfl) rfl) rfl (fun w' hS hV K hK => ?_) ?_
      · have e0 : x 0 = (.slice (some ⟨gg, og, none⟩) 1 cg) := hV 0 (by decide)
        have e1 : x 1 = (.int .i64 ((1 : Nat))) := hV 1 (by decide)
        have e2 : x 2 = (.bool true) := hV 2 (by decide)
        have e3 : x 3 = (.bool true) := hV 3 (by decide)
        have e4 : x 4 = (.agg #[.int .i64 P, .slice A n c]) := hV 4 (by decide)
        have e5 : x 5 = (.slice X (pw n) cx) := hV 5 (by decide)
        obtain ⟨A6, c6, e6, h6⟩ := hV 6 (by decide)
        have q2 := hS.1; obtain ⟨q0, q1⟩ := hS.2.1.two
        go_simp
        refine (lengthS_any _ _ _ _).mono ?_
        rintro e v1 ⟨rfl, rfl⟩
        exact hK.out _ _ _ rfl rfl rfl (Below.refl _ _)
      simp only [List.setIfInBounds_toArray, List.set_cons_zero, List.set_cons_succ]
      refine obs_step (Eq.trans (by simp only [List.getElem?_toArray, List.getElem?_cons_succ, List.getElem?_cons_zero]; exact rfl) rfl) rfl (fun w' hS hV K hK => ?_) ?_
      · have e0 : x 0 = (.slice (some ⟨gg, og, none⟩) 1 cg) := hV 0 (by decide)
        have e1 : x 1 = (.int .i64 ((1 : Nat))) := hV 1 (by decide)
        have e2 : x 2 = (.bool true) := hV 2 (by decide)
        have e3 : x 3 = (.bool true) := hV 3 (by decide)
        have q2 := hS.1; obtain ⟨q0, q1⟩ := hS.2.1.two
        go_simp
        exact hK.out _ _ _ rfl rfl rfl (Below.refl _ _)
      simp only [List.setIfInBounds_toArray, List.set_cons_zero, List.set_cons_succ]
      refine obs_step (Eq.trans (by simp only [List.getElem?_toArray, List.getElem?_cons_succ, List.getElem?_cons_zero]; exact rfl) rfl) rfl (fun w' hS hV K hK => ?_) ?_
      · have e0 : x 0 = (.slice (some ⟨gg, og, none⟩) 1 cg) := hV 0 (by decide)
        have e1 : x 1 = (.int .i64 ((1 : Nat))) := hV 1 (by decide)
        have e2 : x 2 = (.bool true) := hV 2 (by decide)
        have e3 : x 3 = (.bool true) := hV 3 (by decide)
        have e8 : x 8 = (.slice (some ⟨gg, og, none⟩) 1 cg) := hV 8 (by decide)
        have q2 := hS.1; obtain ⟨q0, q1⟩ := hS.2.1.two
        go_simp
        exact hK.out _ _ _ rfl rfl rfl (Below.refl _ _)
      simp only [List.setIfInBounds_toArray, List.set_cons_zero, List.set_cons_succ]
      refine obs_step (Eq.trans (by simp only [List.getElem?_toArray, List.getElem?_cons_succ, List.getElem?_cons_zero]; exact rfl) rfl) rfl (fun w' hS hV K hK => ?_) ?_
      · have e0 : x 0 = (.slice (some ⟨gg, og, none⟩) 1 cg) := hV 0 (by decide)
        have e1 : x 1 = (.int .i64 ((1 : Nat))) := hV 1 (by decide)
        have e2 : x 2 = (.bool true) := hV 2 (by decide)
        have e3 : x 3 = (.bool true) := hV 3 (by decide)
        have e8 : x 8 = (.slice (some ⟨gg, og, none⟩) 1 cg) := hV 8 (by decide)
        have e9 : x 9 = (.pointer (some ⟨gg, og, none⟩)) := hV 9 (by decide)
        have q2 := hS.1; obtain ⟨q0, q1⟩ := hS.2.1.two
        go_simp
        exact hK.out _ _ _ rfl rfl rfl (Below.refl _ _)
      simp only [List.setIfInBounds_toArray, List.set_cons_zero, List.set_cons_succ]
      refine obs_step (Eq.trans (by simp only [List.getElem?_toArray, List.getElem?_cons_succ, List.getElem?_cons_zero]; exact rfl) rfl) rfl (fun w' hS hV K hK => ?_) ?_
      · have e0 : x 0 = (.slice (some ⟨gg, og, none⟩) 1 cg) := hV 0 (by decide)
        have e1 : x 1 = (.int .i64 ((1 : Nat))) := hV 1 (by decide)
        have e2 : x 2 = (.bool true) := hV 2 (by decide)
        have e3 : x 3 = (.bool true) := hV 3 (by decide)
        have e4 : x 4 = (.agg #[.int .i64 P, .slice A n c]) := hV 4 (by decide)
        have e5 : x 5 = (.slice X (pw n) cx) := hV 5 (by decide)
        obtain ⟨A6, c6, e6, h6⟩ := hV 6 (by decide)
        have e7 : x 7 = (.int .i64 (q)) := hV 7 (by decide)
        have e8 : x 8 = (.slice (some ⟨gg, og, none⟩) 1 cg) := hV 8 (by decide)
        have e9 : x 9 = (.pointer (some ⟨gg, og, none⟩)) := hV 9 (by decide)
        have e10 : x 10 = (.int .i64 (gv)) := hV 10 (by decide)
        have q2 := hS.1; obtain ⟨q0, q1⟩ := hS.2.1.two
        go_simp
        exact hK.out _ _ _ rfl rfl rfl (Below.refl _ _)
      simp only [List.setIfInBounds_toArray, List.set_cons_zero, List.set_cons_succ]
      refine obs_step (Eq.trans (by simp only [List.getElem?_toArray, List.getElem?_cons_succ, List.getElem?_cons_zero]; exact rfl) rfl) rfl (fun w' hS hV K hK => ?_) ?_
      · have e0 : x 0 = (.slice (some ⟨gg, og, none⟩) 1 cg) := hV 0 (by decide)
        have e1 : x 1 = (.int .i64 ((1 : Nat))) := hV 1 (by decide)
        have e2 : x 2 = (.bool true) := hV 2 (by decide)
        have e3 : x 3 = (.bool true) := hV 3 (by decide)
        have e4 : x 4 = (.agg #[.int .i64 P, .slice A n c]) := hV 4 (by decide)
        have e5 : x 5 = (.slice X (pw n) cx) := hV 5 (by decide)
        obtain ⟨A6, c6, e6, h6⟩ := hV 6 (by decide)
        have e7 : x 7 = (.int .i64 (q)) := hV 7 (by decide)
        have e8 : x 8 = (.slice (some ⟨gg, og, none⟩) 1 cg) := hV 8 (by decide)
        have e9 : x 9 = (.pointer (some ⟨gg, og, none⟩)) := hV 9 (by decide)
        have e10 : x 10 = (.int .i64 (gv)) := hV 10 (by decide)
        have e11 : x 11 = (.bool false) := hV 11 (by decide)
        have q2 := hS.1; obtain ⟨q0, q1⟩ := hS.2.1.two
        go_simp
        exact hK.out _ _ _ rfl rfl rfl (Below.refl _ _)
      simp only [List.setIfInBounds_toArray, List.set_cons_zero, List.set_cons_succ]
      refine obs_step (Eq.trans (by simp only [List.getElem?_toArray, List.getElem?_cons_succ, List.getElem?_cons_zero]; exact rfl) rfl) rfl (fun w' hS hV K hK => ?_) ?_
      · have e0 : x 0 = (.slice (some ⟨gg, og, none⟩) 1 cg) := hV 0 (by decide)
        have e1 : x 1 = (.int .i64 ((1 : Nat))) := hV 1 (by decide)
        have e2 : x 2 = (.bool true) := hV 2 (by decide)
        have e3 : x 3 = (.bool true) := hV 3 (by decide)
        have e4 : x 4 = (.agg #[.int .i64 P, .slice A n c]) := hV 4 (by decide)
        have e5 : x 5 = (.slice X (pw n) cx) := hV 5 (by decide)
        obtain ⟨A6, c6, e6, h6⟩ := hV 6 (by decide)
        have e7 : x 7 = (.int .i64 (q)) := hV 7 (by decide)
        have e8 : x 8 = (.slice (some ⟨gg, og, none⟩) 1 cg) := hV 8 (by decide)
        have e9 : x 9 = (.pointer (some ⟨gg, og, none⟩)) := hV 9 (by decide)
        have e10 : x 10 = (.int .i64 (gv)) := hV 10 (by decide)
        have e11 : x 11 = (.bool false) := hV 11 (by decide)
        have e12 : x 12 = (.bool false) := hV 12 (by decide)
        have q2 := hS.1; obtain ⟨q0, q1⟩ := hS.2.1.two
        go_simp
        exact hK.out _ _ _ rfl rfl rfl (Below.refl _ _)
      simp only [List.setIfInBounds_toArray, List.set_cons_zero, List.set_cons_succ]
      refine fun w' hS hV => ?_
      have e0 : x 0 = (.slice (some ⟨gg, og, none⟩) 1 cg) := hV 0 (by decide)
      have e1 : x 1 = (.int .i64 ((1 : Nat))) := hV 1 (by decide)
      have e2 : x 2 = (.bool true) := hV 2 (by decide)
      have e3 : x 3 = (.bool true) := hV 3 (by decide)
      have e4 : x 4 = (.agg #[.int .i64 P, .slice A n c]) := hV 4 (by decide)
      have e5 : x 5 = (.slice X (pw n) cx) := hV 5 (by decide)
      obtain ⟨A6, c6, e6, h6⟩ := hV 6 (by decide)
      have e7 : x 7 = (.int .i64 (q)) := hV 7 (by decide)
      have e8 : x 8 = (.slice (some ⟨gg, og, none⟩) 1 cg) := hV 8 (by decide)
      have e9 : x 9 = (.pointer (some ⟨gg, og, none⟩)) := hV 9 (by decide)
      have e10 : x 10 = (.int .i64 (gv)) := hV 10 (by decide)
      have e11 : x 11 = (.bool false) := hV 11 (by decide)
      have e12 : x 12 = (.bool false) := hV 12 (by decide)
      have e13 : x 13 = (.bool false) := hV 13 (by decide)
      simp only [e0, e1, e2, e3, e4, e5, e6, e7, e8, e9, e10, e11, e12, e13]
      clear e0 e1 e2 e3 e4 e5 e6 e7 e8 e9 e10 e11 e12 e13
      refine wpAny_done (by kernel_rfl) ?_ _
      go_wp2
      go_ret
      exact ⟨ret_bool HZ.out.symm, hS.2.2⟩
    · go_wp2
      refine wp_obs 14 [[], [0], [0, 1], [0, 1, 2], [0, 1, 2, 3], [0, 1, 2, 3], [0, 1, 2, 3, 4, 5], [0, 1, 2, 3, 4, 5, 6], [0, 1, 2, 3], [0, 1, 2, 3, 8], [0, 1, 2, 3, 8, 9], [0, 1, 2, 3, 4, 5, 6, 7, 8, 9, 10], [0, 1, 2, 3, 4, 5, 6, 7, 8, 9, 10, 11], [0, 1, 2, 3, 4, 5, 6, 7, 8, 9, 10, 11, 12]] [VIs (.slice (some ⟨gg, og, none⟩) 1 cg), VIs (.int .i64 ((1 : Nat))), VIs (.bool true), VIs (.bool true), VIs (.agg #[.int .i64 P, .slice A n c]), VIs (.slice X (pw n) cx), VMat w q (subL P sq n xs), VIs (.int .i64 (q)), VIs (.slice (some ⟨gg, og, none⟩) 1 cg), VIs (.pointer (some ⟨gg, og, none⟩)), VIs (.int .i64 (gv)), VIs (.bool true), VIs (.bool true), VIs (.bool true)] (fun w' => w'.cell? ⟨gg, og, none⟩ = some (.int .i64 gv) ∧ Blk w' w.heap.size 28 #[.int .i64 P, .slice A n c] ∧ Below w.heap.size w w') (by kernel_rfl) (by kernel_rfl) (fun _ _ h hb => ⟨(hb.cell (World.block_lt_of_cell? _ _ h.1)).trans h.1, h.2.1.below hb h.2.1.lt, h.2.2.trans (hb.mono h.2.2.size)⟩) (⟨hcg, k1.drew, hB1.drew⟩) (fun x => ?_)
      refine obs_step (Eq.trans (by simp only [List.getElem?_toArray, List.getElem?_cons_zero]; exact rfl) rfl) rfl (fun w' hS hV K hK => ?_) ?_
      · have q2 := hS.1; obtain ⟨q0, q1⟩ := hS.2.1.two
        go_simp
        exact hK.out _ _ _ rfl rfl rfl (Below.refl _ _)
      simp only [List.setIfInBounds_toArray, List.set_cons_zero, List.set_cons_succ]
      refine obs_step (Eq.trans (by simp only [List.getElem?_toArray, List.getElem?_cons_succ, List.getElem?_cons_zero]; exact rfl) rfl) rfl (fun w' hS hV K hK => ?_) ?_
      · have e0 : x 0 = (.slice (some ⟨gg, og, none⟩) 1 cg) := hV 0 (by decide)
        have q2 := hS.1; obtain ⟨q0, q1⟩ := hS.2.1.two
        go_simp
        exact hK.out _ _ _ rfl rfl rfl (Below.refl _ _)
      simp only [List.setIfInBounds_toArray, List.set_cons_zero, List.set_cons_succ]
      refine obs_step (Eq.trans (by simp only [List.getElem?_toArray, List.getElem?_cons_succ, List.getElem?_cons_zero]; exact rfl) rfl) rfl (fun w' hS hV K hK => ?_) ?_
      · have e0 : x 0 = (.slice (some ⟨gg, og, none⟩) 1 cg) := hV 0 (by decide)
        have e1 : x 1 = (.int .i64 ((1 : Nat))) := hV 1 (by decide)
        have q2 := hS.1; obtain ⟨q0, q1⟩ := hS.2.1.two
        go_simp
        exact hK.out _ _ _ rfl rfl rfl (Below.refl _ _)
      simp only [List.setIfInBounds_toArray, List.set_cons_zero, List.set_cons_succ]
      refine obs_step (Eq.trans (by simp only [List.getElem?_toArray, List.getElem?_cons_succ, List.getElem?_cons_zero]; exact rfl) rfl) rfl (fun w' hS hV K hK => ?_) ?_
      · have e0 : x 0 = (.slice (some ⟨gg, og, none⟩) 1 cg) := hV 0 (by decide)
        have e1 : x 1 = (.int .i64 ((1 : Nat))) := hV 1 (by decide)
        have e2 : x 2 = (.bool true) := hV 2 (by decide)
        have q2 := hS.1; obtain ⟨q0, q1⟩ := hS.2.1.two
        go_simp
        exact hK.out _ _ _ rfl rfl rfl (Below.refl _ _)
      simp only [List.setIfInBounds_toArray, List.set_cons_zero, List.set_cons_succ]
      refine obs_step (Eq.trans (by simp only [List.getElem?_toArray, List.getElem?_cons_succ, List.getElem?_cons_zero]; exact rfl) rfl) rfl (fun w' hS hV K hK => ?_) ?_
      · have e0 : x 0 = (.slice (some ⟨gg, og, none⟩) 1 cg) := hV 0 (by decide)
        have e1 : x 1 = (.int .i64 ((1 : Nat))) := hV 1 (by decide)
        have e2 : x 2 = (.bool true) := hV 2 (by decide)
        have e3 : x 3 = (.bool true) := hV 3 (by decide)
        have q2 := hS.1; obtain ⟨q0, q1⟩ := hS.2.1.two
        go_simp
        exact hK.out _ _ _ rfl rfl rfl (Below.refl _ _)
      simp only [List.setIfInBounds_toArray, List.set_cons_zero, List.set_cons_succ]
      refine obs_step (Eq.trans (by simp only [List.getElem?_toArray, List.getElem?_cons_succ, List.getElem?_cons_zero]; exact rfl) rfl) rfl (fun w' hS hV K hK => ?_) ?_
      · have e0 : x 0 = (.slice (some ⟨gg, og, none⟩) 1 cg) := hV 0 (by decide)
        have e1 : x 1 = (.int .i64 ((1 : Nat))) := hV 1 (by decide)
        have e2 : x 2 = (.bool true) := hV 2 (by decide)
        have e3 : x 3 = (.bool true) := hV 3 (by decide)
        have q2 := hS.1; obtain ⟨q0, q1⟩ := hS.2.1.two
        go_simp
        exact hK.out _ _ _ rfl rfl rfl (Below.refl _ _)
      simp only [List.setIfInBounds_toArray, List.set_cons_zero, List.set_cons_succ]
      refine obs_step (Eq.trans (by simp only [List.getElem?_toArray, List.getElem?_cons_succ, List.getElem?_cons_zero]; exact rfl) rfl) rfl (fun w' hS hV K hK => ?_) ?_
      · have e0 : x 0 = (.slice (some ⟨gg, og, none⟩) 1 cg) := hV 0 (by decide)
        have e1 : x 1 = (.int .i64 ((1 : Nat))) := hV 1 (by decide)
        have e2 : x 2 = (.bool true) := hV 2 (by decide)
        have e3 : x 3 = (.bool true) := hV 3 (by decide)
        have e4 : x 4 = (.agg #[.int .i64 P, .slice A n c]) := hV 4 (by decide)
        have e5 : x 5 = (.slice X (pw n) cx) := hV 5 (by decide)
        have q2 := hS.1; obtain ⟨q0, q1⟩ := hS.2.1.two
        go_simp
        refine (HSUB.out _ hS.2.2).mono ?_
        rw [← HQ.out]
        rintro e v1 ⟨A2, c2, rfl, hM⟩
        exact hK.out _ _ _ rfl rfl ⟨_, _, rfl, hM.after hS.2.2⟩ hM.b
      simp only [List.setIfInBounds_toArray, List.set_cons_zero, List.set_cons_succ]
      refine obs_step (Eq.trans (by simp only [List.getElem?_toArray, List.getElem?_cons_succ, List.getElem?_cons_zero]; exact rfl) rfl) rfl (fun w' hS hV K hK => ?_) ?_
      · have e0 : x 0 = (.slice (some ⟨gg, og, none⟩) 1 cg) := hV 0 (by decide)
        have e1 : x 1 = (.int .i64 ((1 : Nat))) := hV 1 (by decide)
        have e2 : x 2 = (.bool true) := hV 2 (by decide)
        have e3 : x 3 = (.bool true) := hV 3 (by decide)
        have e4 : x 4 = (.agg #[.int .i64 P, .slice A n c]) := hV 4 (by decide)
        have e5 : x 5 = (.slice X (pw n) cx) := hV 5 (by decide)
        obtain ⟨A6, c6, e6, h6⟩ := hV 6 (by decide)
        have q2 := hS.1; obtain ⟨q0, q1⟩ := hS.2.1.two
        go_simp
        refine (lengthS_any _ _ _ _).mono ?_
        rintro e v1 ⟨rfl, rfl⟩
        exact hK.out _ _ _ rfl rfl rfl (Below.refl _ _)
      simp only [List.setIfInBounds_toArray, List.set_cons_zero, List.set_cons_succ]
      refine obs_step (Eq.trans (by simp only [List.getElem?_toArray, List.getElem?_cons_succ, List.getElem?_cons_zero]; exact rfl) rfl) rfl (fun w' hS hV K hK => ?_) ?_
      · have e0 : x 0 = (.slice (some ⟨gg, og, none⟩) 1 cg) := hV 0 (by decide)
        have e1 : x 1 = (.int .i64 ((1 : Nat))) := hV 1 (by decide)
        have e2 : x 2 = (.bool true) := hV 2 (by decide)
        have e3 : x 3 = (.bool true) := hV 3 (by decide)
        have q2 := hS.1; obtain ⟨q0, q1⟩ := hS.2.1.two
        go_simp
        exact hK.out _ _ _ rfl rfl rfl (Below.refl _ _)
      simp only [List.setIfInBounds_toArray, List.set_cons_zero, List.set_cons_succ]
      refine obs_step (Eq.trans (by simp only [List.getElem?_toArray, List.getElem?_cons_succ, List.getElem?_cons_zero]; exact rfl) rfl) rfl (fun w' hS hV K hK => ?_) ?_
      · have e0 : x 0 = (.slice (some ⟨gg, og, none⟩) 1 cg) := hV 0 (by decide)
        have e1 : x 1 = (.int .i64 ((1 : Nat))) := hV 1 (by decide)
        have e2 : x 2 = (.bool true) := hV 2 (by decide)
        have e3 : x 3 = (.bool true) := hV 3 (by decide)
        have e8 : x 8 = (.slice (some ⟨gg, og, none⟩) 1 cg) := hV 8 (by decide)
        have q2 := hS.1; obtain ⟨q0, q1⟩ := hS.2.1.two
        go_simp
        exact hK.out _ _ _ rfl rfl rfl (Below.refl _ _)
      simp only [List.setIfInBounds_toArray, List.set_cons_zero, List.set_cons_succ]
      refine obs_step (Eq.trans (by simp only [List.getElem?_toArray, List.getElem?_cons_succ, List.getElem?_cons_zero]; exact rfl) rfl) rfl (fun w' hS hV K hK => ?_) ?_
      · have e0 : x 0 = (.slice (some ⟨gg, og, none⟩) 1 cg) := hV 0 (by decide)
        have e1 : x 1 = (.int .i64 ((1 : Nat))) := hV 1 (by decide)
        have e2 : x 2 = (.bool true) := hV 2 (by decide)
        have e3 : x 3 = (.bool true) := hV 3 (by decide)
        have e8 : x 8 = (.slice (some ⟨gg, og, none⟩) 1 cg) := hV 8 (by decide)
        have e9 : x 9 = (.pointer (some ⟨gg, og, none⟩)) := hV 9 (by decide)
        have q2 := hS.1; obtain ⟨q0, q1⟩ := hS.2.1.two
        go_simp
        exact hK.out _ _ _ rfl rfl rfl (Below.refl _ _)
      simp only [List.setIfInBounds_toArray, List.set_cons_zero, List.set_cons_succ]
      refine obs_step (Eq.trans (by simp only [List.getElem?_toArray, List.getElem?_cons_succ, List.getElem?_cons_zero]; exact rfl) rfl) rfl (fun w' hS hV K hK => ?_) ?_
      · have e0 : x 0 = (.slice (some ⟨gg, og, none⟩) 1 cg) := hV 0 (by decide)
        have e1 : x 1 = (.int .i64 ((1 : Nat))) := hV 1 (by decide)
        have e2 : x 2 = (.bool true) := hV 2 (by decide)
        have e3 : x 3 = (.bool true) := hV 3 (by decide)
        have e4 : x 4 = (.agg #[.int .i64 P, .slice A n c]) := hV 4 (by decide)
        have e5 : x 5 = (.slice X (pw n) cx) := hV 5 (by decide)
        obtain ⟨A6, c6, e6, h6⟩ := hV 6 (by decide)
        have e7 : x 7 = (.int .i64 (q)) := hV 7 (by decide)
        have e8 : x 8 = (.slice (some ⟨gg, og, none⟩) 1 cg) := hV 8 (by decide)
        have e9 : x 9 = (.pointer (some ⟨gg, og, none⟩)) := hV 9 (by decide)
        have e10 : x 10 = (.int .i64 (gv)) := hV 10 (by decide)
        have q2 := hS.1; obtain ⟨q0, q1⟩ := hS.2.1.two
        go_simp
        exact hK.out _ _ _ rfl rfl rfl (Below.refl _ _)
      simp only [List.setIfInBounds_toArray, List.set_cons_zero, List.set_cons_succ]
      refine obs_step (Eq.trans (by simp only [List.getElem?_toArray, List.getElem?_cons_succ, List.getElem?_cons_zero]; exact rfl) rfl) rfl (fun w' hS hV K hK => ?_) ?_
      · have e0 : x 0 = (.slice (some ⟨gg, og, none⟩) 1 cg) := hV 0 (by decide)
        have e1 : x 1 = (.int .i64 ((1 : Nat))) := hV 1 (by decide)
        have e2 : x 2 = (.bool true) := hV 2 (by decide)
        have e3 : x 3 = (.bool true) := hV 3 (by decide)
        have e4 : x 4 = (.agg #[.int .i64 P, .slice A n c]) := hV 4 (by decide)
        have e5 : x 5 = (.slice X (pw n) cx) := hV 5 (by decide)
        obtain ⟨A6, c6, e6, h6⟩ := hV 6 (by decide)
        have e7 : x 7 = (.int .i64 (q)) := hV 7 (by decide)
        have e8 : x 8 = (.slice (some ⟨gg, og, none⟩) 1 cg) := hV 8 (by decide)
        have e9 : x 9 = (.pointer (some ⟨gg, og, none⟩)) := hV 9 (by decide)
        have e10 : x 10 = (.int .i64 (gv)) := hV 10 (by decide)
        have e11 : x 11 = (.bool true) := hV 11 (by decide)
        have q2 := hS.1; obtain ⟨q0, q1⟩ := hS.2.1.two
        go_simp
        exact hK.out _ _ _ rfl rfl rfl (Below.refl _ _)
      simp only [List.setIfInBounds_toArray, List.set_cons_zero, List.set_cons_succ]
      refine obs_step (Eq.trans (by simp only [List.getElem?_toArray, List.getElem?_cons_succ, List.getElem?_cons_zero]; exact rfl) rfl) rfl (fun w' hS hV K hK => ?_) ?_
      · have e0 : x 0 = (.slice (some ⟨gg, og, none⟩) 1 cg) := hV 0 (by decide)
        have e1 : x 1 = (.int .i64 ((1 : Nat))) := hV 1 (by decide)
        have e2 : x 2 = (.bool true) := hV 2 (by decide)
        have e3 : x 3 = (.bool true) := hV 3 (by decide)
        have e4 : x 4 = (.agg #[.int .i64 P, .slice A n c]) := hV 4 (by decide)
        have e5 : x 5 = (.slice X (pw n) cx) := hV 5 (by decide)
        obtain ⟨A6, c6, e6, h6⟩ := hV 6 (by decide)
        have e7 : x 7 = (.int .i64 (q)) := hV 7 (by decide)
        have e8 : x 8 = (.slice (some ⟨gg, og, none⟩) 1 cg) := hV 8 (by decide)
        have e9 : x 9 = (.pointer (some ⟨gg, og, none⟩)) := hV 9 (by decide)
        have e10 : x 10 = (.int .i64 (gv)) := hV 10 (by decide)
        have e11 : x 11 = (.bool true) := hV 11 (by decide)
        have e12 : x 12 = (.bool true) := hV 12 (by decide)
        have q2 := hS.1; obtain ⟨q0, q1⟩ := hS.2.1.two
        go_simp
        exact hK.out _ _ _ rfl rfl rfl (Below.refl _ _)
      simp only [List.setIfInBounds_toArray, List.set_cons_zero, List.set_cons_succ]
      refine fun w' hS hV => ?_
      have e0 : x 0 = (.slice (some ⟨gg, og, none⟩) 1 cg) := hV 0 (by decide)
      have e1 : x 1 = (.int .i64 ((1 : Nat))) := hV 1 (by decide)
      have e2 : x 2 = (.bool true) := hV 2 (by decide)
      have e3 : x 3 = (.bool true) := hV 3 (by decide)
      have e4 : x 4 = (.agg #[.int .i64 P, .slice A n c]) := hV 4 (by decide)
      have e5 : x 5 = (.slice X (pw n) cx) := hV 5 (by decide)
      obtain ⟨A6, c6, e6, h6⟩ := hV 6 (by decide)
      have e7 : x 7 = (.int .i64 (q)) := hV 7 (by decide)
      have e8 : x 8 = (.slice (some ⟨gg, og, none⟩) 1 cg) := hV 8 (by decide)
      have e9 : x 9 = (.pointer (some ⟨gg, og, none⟩)) := hV 9 (by decide)
      have e10 : x 10 = (.int .i64 (gv)) := hV 10 (by decide)
      have e11 : x 11 = (.bool true) := hV 11 (by decide)
      have e12 : x 12 = (.bool true) := hV 12 (by decide)
      have e13 : x 13 = (.bool true) := hV 13 (by decide)
      simp only [e0, e1, e2, e3, e4, e5, e6, e7, e8, e9, e10, e11, e12, e13]
      clear e0 e1 e2 e3 e4 e5 e6 e7 e8 e9 e10 e11 e12 e13
      refine wpAny_done (by kernel_rfl) ?_ _
      go_wp2
      go_ret
      exact ⟨ret_bool HZ.out.symm, hS.2.2⟩
  · have HZ : Hid (isBl P sq n xs = false) := Lib.hid (by rw [HGL.out]; simp [h1])
    have hm1 : (((m : Nat) : Int) == 1) = false := by simp; omega
    clear hgr hm
    go_wp2
    refine wp_obs 14 [[], [0], [0, 1], [0, 1, 2], [0, 1, 2, 3], [0, 1, 2, 3], [0, 1, 2, 3, 4, 5], [0, 1, 2, 3, 4, 5, 6], [0, 1, 2, 3], [0, 1, 2, 3, 8], [0, 1, 2, 3, 8, 9], [0, 1, 2, 3, 4, 5, 6, 7, 8, 9, 10], [0, 1, 2, 3, 4, 5, 6, 7, 8, 9, 10, 11], [0, 1, 2, 3, 4, 5, 6, 7, 8, 9, 10, 11, 12]] [VIs (.slice G m cg), VIs (.int .i64 (m)), VIs (.bool false), VIs (.bool false), VIs undef, VIs undef, VIs undef, VIs undef, VIs undef, VIs undef, VIs undef, VIs undef, VIs (.bool false), VIs (.bool false)] (fun w' => Blk w' w.heap.size 28 #[.int .i64 P, .slice A n c] ∧ Below w.heap.size w w') (by kernel_rfl) (by kernel_rfl) (fun _ _ h hb => ⟨h.1.below hb h.1.lt, h.2.trans (hb.mono h.2.size)⟩) (⟨k1.drew, hB1.drew⟩) (fun x => ?_)
    refine obs_step (Eq.trans (by simp only [List.getElem?_toArray, List.getElem?_cons_zero]; exact rfl) rfl) rfl (fun w' hS hV K hK => ?_) ?_
    · obtain ⟨q0, q1⟩ := hS.1.two
      go_simp
      exact hK.out _ _ _ rfl rfl rfl (Below.refl _ _)
    simp only [List.setIfInBounds_toArray, List.set_cons_zero, List.set_cons_succ]
    refine obs_step (Eq.trans (by simp only [List.getElem?_toArray, List.getElem?_cons_succ, List.getElem?_cons_zero]; exact rfl) rfl) rfl (fun w' hS hV K hK => ?_) ?_
    · have e0 : x 0 = (.slice G m cg) := hV 0 (by decide)
      obtain ⟨q0, q1⟩ := hS.1.two
      go_simp
      exact hK.out _ _ _ rfl rfl rfl (Below.refl _ _)
    simp only [List.setIfInBounds_toArray, List.set_cons_zero, List.set_cons_succ]
    refine obs_step (Eq.trans (by simp only [List.getElem?_toArray, List.getElem?_cons_succ, List.getElem?_cons_zero]; exact rfl) rfl) rfl (fun w' hS hV K hK => ?_) ?_
    · have e0 : x 0 = (.slice G m cg) := hV 0 (by decide)
      have e1 : x 1 = (.int .i64 (m)) := hV 1 (by decide)
      obtain ⟨q0, q1⟩ := hS.1.two
      go_simp
      exact hK.out _ _ _ rfl rfl rfl (Below.refl _ _)
    simp only [List.setIfInBounds_toArray, List.set_cons_zero, List.set_cons_succ]
    refine obs_step (Eq.trans (by simp only [List.getElem?_toArray, List.getElem?_cons_succ, List.getElem?_cons_zero]; exact rfl) rfl) rfl (fun w' hS hV K hK => ?_) ?_
    · have e0 : x 0 = (.slice G m cg) := hV 0 (by decide)
      have e1 : x 1 = (.int .i64 (m)) := hV 1 (by decide)
      have e2 : x 2 = (.bool false) := hV 2 (by decide)
      obtain ⟨q0, q1⟩ := hS.1.two
      go_simp
      exact hK.out _ _ _ rfl rfl rfl (Below.refl _ _)
    simp only [List.setIfInBounds_toArray, List.set_cons_zero, List.set_cons_succ]
    refine obs_step (Eq.trans (by simp only [List.getElem?_toArray, List.getElem?_cons_succ, List.getElem?_cons_zero]; exact rfl) rfl) rfl (fun w' hS hV K hK => ?_) ?_
    · have e0 : x 0 = (.slice G m cg) := hV 0 (by decide)
      have e1 : x 1 = (.int .i64 (m)) := hV 1 (by decide)
      have e2 : x 2 = (.bool false) := hV 2 (by decide)
      have e3 : x 3 = (.bool false) := hV 3 (by decide)
      obtain ⟨q0, q1⟩ := hS.1.two
      go_simp
      exact hK.out _ _ _ rfl rfl rfl (Below.refl _ _)
    simp only [List.setIfInBounds_toArray, List.set_cons_zero, List.set_cons_succ]
    refine obs_step (Eq.trans (by simp only [List.getElem?_toArray, List.getElem?_cons_succ, List.getElem?_cons_zero]; exact rfl) rfl) rfl (fun w' hS hV K hK => ?_) ?_
    · have e0 : x 0 = (.slice G m cg) := hV 0 (by decide)
      have e1 : x 1 = (.int .i64 (m)) := hV 1 (by decide)
      have e2 : x 2 = (.bool false) := hV 2 (by decide)
      have e3 : x 3 = (.bool false) := hV 3 (by decide)
      obtain ⟨q0, q1⟩ := hS.1.two
      go_simp
      exact hK.out _ _ _ rfl rfl rfl (Below.refl _ _)
    simp only [List.setIfInBounds_toArray, List.set_cons_zero, List.set_cons_succ]
    refine obs_step (Eq.trans (by simp only [List.getElem?_toArray, List.getElem?_cons_succ, List.getElem?_cons_zero]; exact rfl) rfl) rfl (fun w' hS hV K hK => ?_) ?_
    · have e0 : x 0 = (.slice G m cg) := hV 0 (by decide)
      have e1 : x 1 = (.int .i64 (m)) := hV 1 (by decide)
      have e2 : x 2 = (.bool false) := hV 2 (by decide)
      have e3 : x 3 = (.bool false) := hV 3 (by decide)
      have e4 : x 4 = undef := hV 4 (by decide)
      have e5 : x 5 = undef := hV 5 (by decide)
      obtain ⟨q0, q1⟩ := hS.1.two
      go_simp
      exact hK.out _ _ _ rfl rfl rfl (Below.refl _ _)
    simp only [List.setIfInBounds_toArray, List.set_cons_zero, List.set_cons_succ]
    refine obs_step (Eq.trans (by simp only [List.getElem?_toArray, List.getElem?_cons_succ, List.getElem?_cons_zero]; exact rfl) rfl) rfl (fun w' hS hV K hK => ?_) ?_
    · have e0 : x 0 = (.slice G m cg) := hV 0 (by decide)
      have e1 : x 1 = (.int .i64 (m)) := hV 1 (by decide)
      have e2 : x 2 = (.bool false) := hV 2 (by decide)
      have e3 : x 3 = (.bool false) := hV 3 (by decide)
      have e4 : x 4 = undef := hV 4 (by decide)
      have e5 : x 5 = undef := hV 5 (by decide)
      have e6 : x 6 = undef := hV 6 (by decide)
      obtain ⟨q0, q1⟩ := hS.1.two
      go_simp
      exact hK.out _ _ _ rfl rfl rfl (Below.refl _ _)
    simp only [List.setIfInBounds_toArray, List.set_cons_zero, List.set_cons_succ]
    refine obs_step (Eq.trans (by simp only [List.getElem?_toArray, List.getElem?_cons_succ, List.getElem?_cons_zero]; exact rfl) rfl) rfl (fun w' hS hV K hK => ?_) ?_
    · have e0 : x 0 = (.slice G m cg) := hV 0 (by decide)
      have e1 : x 1 = (.int .i64 (m)) := hV 1 (by decide)
      have e2 : x 2 = (.bool false) := hV 2 (by decide)
      have e3 : x 3 = (.bool false) := hV 3 (by decide)
      obtain ⟨q0, q1⟩ := hS.1.two
      go_simp
      exact hK.out _ _ _ rfl rfl rfl (Below.refl _ _)
    simp only [List.setIfInBounds_toArray, List.set_cons_zero, List.set_cons_succ]
    refine obs_step (Eq.trans (by simp only [List.getElem?_toArray, List.getElem?_cons_succ, List.getElem?_cons_zero]; exact rfl) rfl) rfl (fun w' hS hV K hK => ?_) ?_
    · have e0 : x 0 = (.slice G m cg) := hV 0 (by decide)
      have e1 : x 1 = (.int .i64 (m)) := hV 1 (by decide)
      have e2 : x 2 = (.bool false) := hV 2 (by decide)
      have e3 : x 3 = (.bool false) := hV 3 (by decide)
      have e8 : x 8 = undef := hV 8 (by decide)
      obtain ⟨q0, q1⟩ := hS.1.two
      go_simp
      exact hK.out _ _ _ rfl rfl rfl (Below.refl _ _)
    simp only [List.setIfInBounds_toArray, List.set_cons_zero, List.set_cons_succ]
    refine obs_step (Eq.trans (by simp only [List.getElem?_toArray, List.getElem?_cons_succ, List.getElem?_cons_zero]; exact rfl) rfl) rfl (fun w' hS hV K hK => ?_) ?_
    · have e0 : x 0 = (.slice G m cg) := hV 0 (by decide)
      have e1 : x 1 = (.int .i64 (m)) := hV 1 (by decide)
      have e2 : x 2 = (.bool false) := hV 2 (by decide)
      have e3 : x 3 = (.bool false) := hV 3 (by decide)
      have e8 : x 8 = undef := hV 8 (by decide)
      have e9 : x 9 = undef := hV 9 (by decide)
      obtain ⟨q0, q1⟩ := hS.1.two
      go_simp
      exact hK.out _ _ _ rfl rfl rfl (Below.refl _ _)
    simp only [List.setIfInBounds_toArray, List.set_cons_zero, List.set_cons_succ]
    refine obs_step (Eq.trans (by simp only [List.getElem?_toArray, List.getElem?_cons_succ, List.getElem?_cons_zero]; exact rfl) rfl) rfl (fun w' hS hV K hK => ?_) ?_
    · have e0 : x 0 = (.slice G m cg) := hV 0 (by decide)
      have e1 : x 1 = (.int .i64 (m)) := hV 1 (by decide)
      have e2 : x 2 = (.bool false) := hV 2 (by decide)
      have e3 : x 3 = (.bool false) := hV 3 (by decide)
      have e4 : x 4 = undef := hV 4 (by decide)
      have e5 : x 5 = undef := hV 5 (by decide)
      have e6 : x 6 = undef := hV 6 (by decide)
      have e7 : x 7 = undef := hV 7 (by decide)
      have e8 : x 8 = undef := hV 8 (by decide)
      have e9 : x 9 = undef := hV 9 (by decide)
      have e10 : x 10 = undef := hV 10 (by decide)
      obtain ⟨q0, q1⟩ := hS.1.two
      go_simp
      exact hK.out _ _ _ rfl rfl rfl (Below.refl _ _)
    simp only [List.setIfInBounds_toArray, List.set_cons_zero, List.set_cons_succ]
    refine obs_step (Eq.trans (by simp only [List.getElem?_toArray, List.getElem?_cons_succ, List.getElem?_cons_zero]; exact rfl) rfl) rfl (fun w' hS hV K hK => ?_) ?_
    · have e0 : x 0 = (.slice G m cg) := hV 0 (by decide)
      have e1 : x 1 = (.int .i64 (m)) := hV 1 (by decide)
      have e2 : x 2 = (.bool false) := hV 2 (by decide)
      have e3 : x 3 = (.bool false) := hV 3 (by decide)
      have e4 : x 4 = undef := hV 4 (by decide)
      have e5 : x 5 = undef := hV 5 (by decide)
      have e6 : x 6 = undef := hV 6 (by decide)
      have e7 : x 7 = undef := hV 7 (by decide)
      have e8 : x 8 = undef := hV 8 (by decide)
      have e9 : x 9 = undef := hV 9 (by decide)
      have e10 : x 10 = undef := hV 10 (by decide)
      have e11 : x 11 = undef := hV 11 (by decide)
      obtain ⟨q0, q1⟩ := hS.1.two
      go_simp
      exact hK.out _ _ _ rfl rfl rfl (Below.refl _ _)
    simp only [List.setIfInBounds_toArray, List.set_cons_zero, List.set_cons_succ]
    refine obs_step (Eq.trans (by simp only [List.getElem?_toArray, List.getElem?_cons_succ, List.getElem?_cons_zero]; exact rfl) rfl) rfl (fun w' hS hV K hK => ?_) ?_
    · have e0 : x 0 = (.slice G m cg) := hV 0 (by decide)
      have e1 : x 1 = (.int .i64 (m)) := hV 1 (by decide)
      have e2 : x 2 = (.bool false) := hV 2 (by decide)
      have e3 : x 3 = (.bool false) := hV 3 (by decide)
      have e4 : x 4 = undef := hV 4 (by decide)
      have e5 : x 5 = undef := hV 5 (by decide)
      have e6 : x 6 = undef := hV 6 (by decide)
      have e7 : x 7 = undef := hV 7 (by decide)
      have e8 : x 8 = undef := hV 8 (by decide)
      have e9 : x 9 = undef := hV 9 (by decide)
      have e10 : x 10 = undef := hV 10 (by decide)
      have e11 : x 11 = undef := hV 11 (by decide)
      have e12 : x 12 = (.bool false) := hV 12 (by decide)
      obtain ⟨q0, q1⟩ := hS.1.two
      go_simp
      exact hK.out _ _ _ rfl rfl rfl (Below.refl _ _)
    simp only [List.setIfInBounds_toArray, List.set_cons_zero, List.set_cons_succ]
    refine fun w' hS hV => ?_
    have e0 : x 0 = (.slice G m cg) := hV 0 (by decide)
    have e1 : x 1 = (.int .i64 (m)) := hV 1 (by decide)
    have e2 : x 2 = (.bool false) := hV 2 (by decide)
    have e3 : x 3 = (.bool false) := hV 3 (by decide)
    have e4 : x 4 = undef := hV 4 (by decide)
    have e5 : x 5 = undef := hV 5 (by decide)
    have e6 : x 6 = undef := hV 6 (by decide)
    have e7 : x 7 = undef := hV 7 (by decide)
    have e8 : x 8 = undef := hV 8 (by decide)
    have e9 : x 9 = undef := hV 9 (by decide)
    have e10 : x 10 = undef := hV 10 (by decide)
    have e11 : x 11 = undef := hV 11 (by decide)
    have e12 : x 12 = (.bool false) := hV 12 (by decide)
    have e13 : x 13 = (.bool false) := hV 13 (by decide)
    simp only [e0, e1, e2, e3, e4, e5, e6, e7, e8, e9, e10, e11, e12, e13]
    clear e0 e1 e2 e3 e4 e5 e6 e7 e8 e9 e10 e11 e12 e13
    refine wpAny_done (by kernel_rfl) ?_ _
    go_wp2
    go_ret
    exact ⟨ret_bool HZ.out.symm, hS.2⟩
set_option maxHeartbeats 3200000 in
set_option maxRecDepth 8000 in
theorem l06Is_any (P : Int) (A : Option Addr) (n c : Nat) (sq : List Int) (X : Option Addr) (cx : Nat) (xs : List Int) (w : World) (HP : isP P = true) (hn : n ≤ 6) (h0 : 0 < n) (ha : Rd w A n (ints sq)) (hs : NumsL P sq) (hx : Rd w X (pw n) (ints xs)) (hxs : NumsL P xs) :
    Calls Tryz.prog 87 #[.agg #[.int .i64 P, .slice A n c], .slice X (pw n) cx] w fun e w' => e = .returned (.bool (isBl P sq n xs)) ∧ Below w.heap.size w w' := by
  obtain ⟨hp3, hp2⟩ := isP_ge HP
  have hp : 2 ≤ P := by omega
  have hpn := pw_pos n
  have hpw : pw n ≤ 64 := pw_le hn
  have hB0 : Below w.heap.size w (w.alloc (.cells #[.int .i64 P, .slice A n c] 28)) := (Below.refl _ _).alloc (Nat.le_refl _) _
  have k0 : Blk (w.alloc (.cells #[.int .i64 P, .slice A n c] 28)) w.heap.size 28 #[.int .i64 P, .slice A n c] := Blk.new _ _ _
  have hgl := gradesL_len xs
  have hsl := subL_len HP sq n xs
  have hsub := fun w' (hb : Below w.heap.size w w') => l06Subspace_any P A n c sq X cx xs w' HP hn h0 (ha.below hb) hs (hx.below hb) hxs
  have HSUB := Lib.hid hsub
  clear hsub
  obtain ⟨q0, q1⟩ := k0.two
  go_enter Tryz.func87, Tryz.ntmps87
  go_wp2_with fail
  refine (l04Grades_any P A n c X cx xs _ hn (hx.below hB0)).mono ?_
  rintro e w1 ⟨G, cg, rfl, hG⟩
  have k1 := k0.below hG.b k0.lt
  have hB1 := hB0.trans (hG.b.mono hB0.size)
  have HGL : Hid ((isBl P sq n xs) = (decide ((gradesL xs).length = 1) && decide ((((subL P sq n xs).length : Nat) : Int) = (gradesL xs).getD 0 0))) := Lib.hid rfl
  have hgr := hG.rd
  obtain ⟨L, hL⟩ : ∃ L, L = gradesL xs := ⟨_, rfl⟩
  rw [← hL] at hgr hgl HGL ⊢
  obtain ⟨q, hq⟩ : ∃ q, q = (subL P sq n xs).length := ⟨_, rfl⟩
  have HQ := Lib.hid hq
  rw [← hq] at HGL hsl
  obtain ⟨m, hm⟩ : ∃ m, m = L.length := ⟨_, rfl⟩
  rw [← hm] at hgr hgl HGL ⊢
  clear k0 hB0 q0 q1 hG hL hq
  have HM := Lib.hid hm
  by_cases h1 : m = 1
  · obtain ⟨gg, og, rfl, hg0, hcg⟩ := hgr.int (show 0 < m by omega)
    have HG0 : Hid (L.getD 0 0 = L[0]) := Lib.hid (getD_of_lt 0 hg0)
    rw [Nat.add_zero] at hcg
    obtain ⟨gv, hgv⟩ : ∃ v, v = L[0] := ⟨_, rfl⟩
    rw [← hgv] at hcg HG0
    clear hgv hg0 hgr hm
    have HZ0 : Hid (isBl P sq n xs = (((q : Nat) : Int) == gv)) := Lib.hid (by rw [HGL.out, HG0.out, h1, Bool.eq_iff_iff]; simp)
    cases hz : (((q : Nat) : Int) == gv)
    all_goals
      have HZ := Lib.hid (HZ0.out.trans hz)
      subst h1
    · go_wp2
      refine wp_obs 14 [[], [0], [0, 1], [0, 1, 2], [0, 1, 2, 3], [0, 1, 2, 3], [0, 1, 2, 3, 4, 5], [0, 1, 2, 3, 4, 5, 6], [0, 1, 2, 3], [0, 1, 2, 3, 8], [0, 1, 2, 3, 8, 9], [0, 1, 2, 3, 4, 5, 6, 7, 8, 9, 10], [0, 1, 2, 3, 4, 5, 6, 7, 8, 9, 10, 11], [0, 1, 2, 3, 4, 5, 6, 7, 8, 9, 10, 11, 12]] [VIs (.slice (some ⟨gg, og, none⟩) 1 cg), VIs (.int .i64 ((1 : Nat))), VIs (.bool true), VIs (.bool true), VIs (.agg #[.int .i64 P, .slice A n c]), VIs (.slice X (pw n) cx), VMat w q (subL P sq n xs), VIs (.int .i64 (q)), VIs (.slice (some ⟨gg, og, none⟩) 1 cg), VIs (.pointer (some ⟨gg, og, none⟩)), VIs (.int .i64 (gv)), VIs (.bool false), VIs (.bool false), VIs (.bool false)] (fun w' => w'.cell? ⟨gg, og, none⟩ = some (.int .i64 gv) ∧ Blk w' w.heap.size 28 #[.int .i64 P, .slice A n c] ∧ Below w.heap.size w w') (by kernel_rfl) (by kernel_rfl) (fun _ _ h hb => ⟨(hb.cell (World.block_lt_of_cell? _ _ h.1)).trans h.1, h.2.1.below hb h.2.1.lt, h.2.2.trans (hb.mono h.2.2.size)⟩) (⟨hcg, k1.drew, hB1.drew⟩) (fun x => ?_)
      refine obs_step (Eq.trans (by simp only [List.getElem?_toArray, List.getElem?_cons_zero]; exact rfl) rfl) rfl (fun w' hS hV K hK => ?_) ?_
      · have q2 := hS.1; obtain ⟨q0, q1⟩ := hS.2.1.two
        go_simp
        exact hK.out _ _ _ rfl rfl rfl (Below.refl _ _)
      simp only [List.setIfInBounds_toArray, List.set_cons_zero, List.set_cons_succ]
      refine obs_step (Eq.trans (by simp only [List.getElem?_toArray, List.getElem?_cons_succ, List.getElem?_cons_zero]; exact rfl) rfl) rfl (fun w' hS hV K hK => ?_) ?_
      · have e0 : x 0 = (.slice (some ⟨gg, og, none⟩) 1 cg) := hV 0 (by decide)
        have q2 := hS.1; obtain ⟨q0, q1⟩ := hS.2.1.two
        go_simp
        exact hK.out _ _ _ rfl rfl rfl (Below.refl _ _)
      simp only [List.setIfInBounds_toArray, List.set_cons_zero, List.set_cons_succ]
      refine obs_step (Eq.trans (by simp only [List.getElem?_toArray, List.getElem?_cons_succ, List.getElem?_cons_zero]; exact rfl) rfl) rfl (fun w' hS hV K hK => ?_) ?_
      · have e0 : x 0 = (.slice (some ⟨gg, og, none⟩) 1 cg) := hV 0 (by decide)
        have e1 : x 1 = (.int .i64 ((1 : Nat))) := hV 1 (by decide)
        have q2 := hS.1; obtain ⟨q0, q1⟩ := hS.2.1.two
        go_simp
        exact hK.out _ _ _ rfl rfl rfl (Below.refl _ _)
      simp only [List.setIfInBounds_toArray, List.set_cons_zero, List.set_cons_succ]
      refine obs_step (Eq.trans (by simp only [List.getElem?_toArray, List.getElem?_cons_succ, List.getElem?_cons_zero]; exact rfl) rfl) rfl (fun w' hS hV K hK => ?_) ?_
      · have e0 : x 0 = (.slice (some ⟨gg, og, none⟩) 1 cg) := hV 0 (by decide)
        have e1 : x 1 = (.int .i64 ((1 : Nat))) := hV 1 (by decide)
        have e2 : x 2 = (.bool true) := hV 2 (by decide)
        have q2 := hS.1; obtain ⟨q0, q1⟩ := hS.2.1.two
        go_simp
        exact hK.out _ _ _ rfl rfl rfl (Below.refl _ _)
      simp only [List.setIfInBounds_toArray, List.set_cons_zero, List.set_cons_succ]
      refine obs_step (Eq.trans (by simp only [List.getElem?_toArray, List.getElem?_cons_succ, List.getElem?_cons_zero]; exact rfl) rfl) rfl (fun w' hS hV K hK => ?_) ?_
      · have e0 : x 0 = (.slice (some ⟨gg, og, none⟩) 1 cg) := hV 0 (by decide)
        have e1 : x 1 = (.int .i64 ((1 : Nat))) := hV 1 (by decide)
        have e2 : x 2 = (.bool true) := hV 2 (by decide)
        have e3 : x 3 = (.bool true) := hV 3 (by decide)
        have q2 := hS.1; obtain ⟨q0, q1⟩ := hS.2.1.two
        go_simp
        exact hK.out _ _ _ rfl rfl rfl (Below.refl _ _)
      simp only [List.setIfInBounds_toArray, List.set_cons_zero, List.set_cons_succ]
      refine obs_step (Eq.trans (by simp only [List.getElem?_toArray, List.getElem?_cons_succ, List.getElem?_cons_zero]; exact rfl) rfl) rfl (fun w' hS hV K hK => ?_) ?_
      · have e0 : x 0 = (.slice (some ⟨gg, og, none⟩) 1 cg) := hV 0 (by decide)
        have e1 : x 1 = (.int .i64 ((1 : Nat))) := hV 1 (by decide)
        have e2 : x 2 = (.bool true) := hV 2 (by decide)
        have e3 : x 3 = (.bool true) := hV 3 (by decide)
        have q2 := hS.1; obtain ⟨q0, q1⟩ := hS.2.1.two
        go_simp
        exact hK.out _ _ _ rfl rfl rfl (Below.refl _ _)
      simp only [List.setIfInBounds_toArray, List.set_cons_zero, List.set_cons_succ]
      refine obs_step (Eq.trans (by simp only [List.getElem?_toArray, List.getElem?_cons_succ, List.getElem?_cons_zero]; exact rfl) rfl) rfl (fun w' hS hV K hK => ?_) ?_
      · have e0 : x 0 = (.slice (some ⟨gg, og, none⟩) 1 cg) := hV 0 (by decide)
        have e1 : x 1 = (.int .i64 ((1 : Nat))) := hV 1 (by decide)
        have e2 : x 2 = (.bool true) := hV 2 (by decide)
        have e3 : x 3 = (.bool true) := hV 3 (by decide)
        have e4 : x 4 = (.agg #[.int .i64 P, .slice A n c]) := hV 4 (by decide)
        have e5 : x 5 = (.slice X (pw n) cx) := hV 5 (by decide)
        have q2 := hS.1; obtain ⟨q0, q1⟩ := hS.2.1.two
        go_simp
        refine (HSUB.out _ hS.2.2).mono ?_
        rw [← HQ.out]
        rintro e v1 ⟨A2, c2, rfl, hM⟩
        exact hK.out _ _ _ rfl rfl ⟨_, _, rfl, hM.after hS.2.2⟩ hM.b
      simp only [List.setIfInBounds_toArray, List.set_cons_zero, List.set_cons_succ]
      refine obs_step (Eq.trans (by simp only [List.getElem?_toArray, List.getElem?_cons_succ, List.getElem?_cons_zero]; exact rfl) rfl) rfl (fun w' hS hV K hK => ?_) ?_
      · have e0 : x 0 = (.slice (some ⟨gg, og, none⟩) 1 cg) := hV 0 (by decide)
        have e1 : x 1 = (.int .i64 ((1 : Nat))) := hV 1 (by decide)
        have e2 : x 2 = (.bool true) := hV 2 (by decide)
        have e3 : x 3 = (.bool true) := hV 3 (by decide)
        have e4 : x 4 = (.agg #[.int .i64 P, .slice A n c]) := hV 4 (by decide)
        have e5 : x 5 = (.slice X (pw n) cx) := hV 5 (by decide)
        obtain ⟨A6, c6, e6, h6⟩ := hV 6 (by decide)
        have q2 := hS.1; obtain ⟨q0, q1⟩ := hS.2.1.two
        go_simp
        exact hK.out _ _ _ rfl rfl rfl (Below.refl _ _)
      simp only [List.setIfInBounds_toArray, List.set_cons_zero, List.set_cons_succ]
      refine obs_step (Eq.trans (by simp only [List.getElem?_toArray, List.getElem?_cons_succ, List.getElem?_cons_zero]; exact rfl) rfl) rfl (fun w' hS hV K hK => ?_) ?_
      · have e0 : x 0 = (.slice (some ⟨gg, og, none⟩) 1 cg) := hV 0 (by decide)
        have e1 : x 1 = (.int .i64 ((1 : Nat))) := hV 1 (by decide)
        have e2 : x 2 = (.bool true) := hV 2 (by decide)
        have e3 : x 3 = (.bool true) := hV 3 (by decide)
        have q2 := hS.1; obtain ⟨q0, q1⟩ := hS.2.1.two
        go_simp
        exact hK.out _ _ _ rfl rfl rfl (Below.refl _ _)
      simp only [List.setIfInBounds_toArray, List.set_cons_zero, List.set_cons_succ]
      refine obs_step (Eq.trans (by simp only [List.getElem?_toArray, List.getElem?_cons_succ, List.getElem?_cons_zero]; exact rfl) rfl) rfl (fun w' hS hV K hK => ?_) ?_
      · have e0 : x 0 = (.slice (some ⟨gg, og, none⟩) 1 cg) := hV 0 (by decide)
        have e1 : x 1 = (.int .i64 ((1 : Nat))) := hV 1 (by decide)
        have e2 : x 2 = (.bool true) := hV 2 (by decide)
        have e3 : x 3 = (.bool true) := hV 3 (by decide)
        have e8 : x 8 = (.slice (some ⟨gg, og, none⟩) 1 cg) := hV 8 (by decide)
        have q2 := hS.1; obtain ⟨q0, q1⟩ := hS.2.1.two
        go_simp
        exact hK.out _ _ _ rfl rfl rfl (Below.refl _ _)
      simp only [List.setIfInBounds_toArray, List.set_cons_zero, List.set_cons_succ]
      refine obs_step (Eq.trans (by simp only [List.getElem?_toArray, List.getElem?_cons_succ, List.getElem?_cons_zero]; exact rfl) rfl) rfl (fun w' hS hV K hK => ?_) ?_
      · have e0 : x 0 = (.slice (some ⟨gg, og, none⟩) 1 cg) := hV 0 (by decide)
        have e1 : x 1 = (.int .i64 ((1 : Nat))) := hV 1 (by decide)
        have e2 : x 2 = (.bool true) := hV 2 (by decide)
        have e3 : x 3 = (.bool true) := hV 3 (by decide)
        have e8 : x 8 = (.slice (some ⟨gg, og, none⟩) 1 cg) := hV 8 (by decide)
        have e9 : x 9 = (.pointer (some ⟨gg, og, none⟩)) := hV 9 (by decide)
        have q2 := hS.1; obtain ⟨q0, q1⟩ := hS.2.1.two
        go_simp
        exact hK.out _ _ _ rfl rfl rfl (Below.refl _ _)
      simp only [List.setIfInBounds_toArray, List.set_cons_zero, List.set_cons_succ]
      refine obs_step (Eq.trans (by simp only [List.getElem?_toArray, List.getElem?_cons_succ, List.getElem?_cons_zero]; exact rfl) rfl) rfl (fun w' hS hV K hK => ?_) ?_
      · have e0 : x 0 = (.slice (some ⟨gg, og, none⟩) 1 cg) := hV 0 (by decide)
        have e1 : x 1 = (.int .i64 ((1 : Nat))) := hV 1 (by decide)
        have e2 : x 2 = (.bool true) := hV 2 (by decide)
        have e3 : x 3 = (.bool true) := hV 3 (by decide)
        have e4 : x 4 = (.agg #[.int .i64 P, .slice A n c]) := hV 4 (by decide)
        have e5 : x 5 = (.slice X (pw n) cx) := hV 5 (by decide)
        obtain ⟨A6, c6, e6, h6⟩ := hV 6 (by decide)
        have e7 : x 7 = (.int .i64 (q)) := hV 7 (by decide)
        have e8 : x 8 = (.slice (some ⟨gg, og, none⟩) 1 cg) := hV 8 (by decide)
        have e9 : x 9 = (.pointer (some ⟨gg, og, none⟩)) := hV 9 (by decide)
        have e10 : x 10 = (.int .i64 (gv)) := hV 10 (by decide)
        have q2 := hS.1; obtain ⟨q0, q1⟩ := hS.2.1.two
        go_simp
        exact hK.out _ _ _ rfl rfl rfl (Below.refl _ _)
      simp only [List.setIfInBounds_toArray, List.set_cons_zero, List.set_cons_succ]
      refine obs_step (Eq.trans (by simp only [List.getElem?_toArray, List.getElem?_cons_succ, List.getElem?_cons_zero]; exact rfl) rfl) rfl (fun w' hS hV K hK => ?_) ?_
      · have e0 : x 0 = (.slice (some ⟨gg, og, none⟩) 1 cg) := hV 0 (by decide)
        have e1 : x 1 = (.int .i64 ((1 : Nat))) := hV 1 (by decide)
        have e2 : x 2 = (.bool true) := hV 2 (by decide)
        have e3 : x 3 = (.bool true) := hV 3 (by decide)
        have e4 : x 4 = (.agg #[.int .i64 P, .slice A n c]) := hV 4 (by decide)
        have e5 : x 5 = (.slice X (pw n) cx) := hV 5 (by decide)
        obtain ⟨A6, c6, e6, h6⟩ := hV 6 (by decide)
        have e7 : x 7 = (.int .i64 (q)) := hV 7 (by decide)
        have e8 : x 8 = (.slice (some ⟨gg, og, none⟩) 1 cg) := hV 8 (by decide)
        have e9 : x 9 = (.pointer (some ⟨gg, og, none⟩)) := hV 9 (by decide)
        have e10 : x 10 = (.int .i64 (gv)) := hV 10 (by decide)
        have e11 : x 11 = (.bool false) := hV 11 (by decide)
        have q2 := hS.1; obtain ⟨q0, q1⟩ := hS.2.1.two
        go_simp
        exact hK.out _ _ _ rfl rfl rfl (Below.refl _ _)
      simp only [List.setIfInBounds_toArray, List.set_cons_zero, List.set_cons_succ]
      refine obs_step (Eq.trans (by simp only [List.getElem?_toArray, List.getElem?_cons_succ, List.getElem?_cons_zero]; exact rfl) rfl) rfl (fun w' hS hV K hK => ?_) ?_
      · have e0 : x 0 = (.slice (some ⟨gg, og, none⟩) 1 cg) := hV 0 (by decide)
        have e1 : x 1 = (.int .i64 ((1 : Nat))) := hV 1 (by decide)
        have e2 : x 2 = (.bool true) := hV 2 (by decide)
        have e3 : x 3 = (.bool true) := hV 3 (by decide)
        have e4 : x 4 = (.agg #[.int .i64 P, .slice A n c]) := hV 4 (by decide)
        have e5 : x 5 = (.slice X (pw n) cx) := hV 5 (by decide)
        obtain ⟨A6, c6, e6, h6⟩ := hV 6 (by decide)
        have e7 : x 7 = (.int .i64 (q)) := hV 7 (by decide)
        have e8 : x 8 = (.slice (some ⟨gg, og, none⟩) 1 cg) := hV 8 (by decide)
        have e9 : x 9 = (.pointer (some ⟨gg, og, none⟩)) := hV 9 (by decide)
        have e10 : x 10 = (.int .i64 (gv)) := hV 10 (by decide)
        have e11 : x 11 = (.bool false) := hV 11 (by decide)
        have e12 : x 12 = (.bool false) := hV 12 (by decide)
        have q2 := hS.1; obtain ⟨q0, q1⟩ := hS.2.1.two
        go_simp
        exact hK.out _ _ _ rfl rfl rfl (Below.refl _ _)
      simp only [List.setIfInBounds_toArray, List.set_cons_zero, List.set_cons_succ]
      refine fun w' hS hV => ?_
      have e0 : x 0 = (.slice (some ⟨gg, og, none⟩) 1 cg) := hV 0 (by decide)
      have e1 : x 1 = (.int .i64 ((1 : Nat))) := hV 1 (by decide)
      have e2 : x 2 = (.bool true) := hV 2 (by decide)
      have e3 : x 3 = (.bool true) := hV 3 (by decide)
      have e4 : x 4 = (.agg #[.int .i64 P, .slice A n c]) := hV 4 (by decide)
      have e5 : x 5 = (.slice X (pw n) cx) := hV 5 (by decide)
      obtain ⟨A6, c6, e6, h6⟩ := hV 6 (by decide)
      have e7 : x 7 = (.int .i64 (q)) := hV 7 (by decide)
      have e8 : x 8 = (.slice (some ⟨gg, og, none⟩) 1 cg) := hV 8 (by decide)
      have e9 : x 9 = (.pointer (some ⟨gg, og, none⟩)) := hV 9 (by decide)
      have e10 : x 10 = (.int .i64 (gv)) := hV 10 (by decide)
      have e11 : x 11 = (.bool false) := hV 11 (by decide)
      have e12 : x 12 = (.bool false) := hV 12 (by decide)
      have e13 : x 13 = (.bool false) := hV 13 (by decide)
      simp only [e0, e1, e2, e3, e4, e5, e6, e7, e8, e9, e10, e11, e12, e13]
      clear e0 e1 e2 e3 e4 e5 e6 e7 e8 e9 e10 e11 e12 e13
      refine wpAny_done (by kernel_rfl) ?_ _
      go_wp2
      go_ret
      exact ⟨ret_bool HZ.out.symm, hS.2.2⟩
    · go_wp2
      refine wp_obs 14 [[], [0], [0, 1], [0, 1, 2], [0, 1, 2, 3], [0, 1, 2, 3], [0, 1, 2, 3, 4, 5], [0, 1, 2, 3, 4, 5, 6], [0, 1, 2, 3], [0, 1, 2, 3, 8], [0, 1, 2, 3, 8, 9], [0, 1, 2, 3, 4, 5, 6, 7, 8, 9, 10], [0, 1, 2, 3, 4, 5, 6, 7, 8, 9, 10, 11], [0, 1, 2, 3, 4, 5, 6, 7, 8, 9, 10, 11, 12]] [VIs (.slice (some ⟨gg, og, none⟩) 1 cg), VIs (.int .i64 ((1 : Nat))), VIs (.bool true), VIs (.bool true), VIs (.agg #[.int .i64 P, .slice A n c]), VIs (.slice X (pw n) cx), VMat w q (subL P sq n xs), VIs (.int .i64 (q)), VIs (.slice (some ⟨gg, og, none⟩) 1 cg), VIs (.pointer (some ⟨gg, og, none⟩)), VIs (.int .i64 (gv)), VIs (.bool true), VIs (.bool true), VIs (.bool true)] (fun w' => w'.cell? ⟨gg, og, none⟩ = some (.int .i64 gv) ∧ Blk w' w.heap.size 28 #[.int .i64 P, .slice A n c] ∧ Below w.heap.size w w') (by kernel_rfl) (by kernel_rfl) (fun _ _ h hb => ⟨(hb.cell (World.block_lt_of_cell? _ _ h.1)).trans h.1, h.2.1.below hb h.2.1.lt, h.2.2.trans (hb.mono h.2.2.size)⟩) (⟨hcg, k1.drew, hB1.drew⟩) (fun x => ?_)
      refine obs_step (Eq.trans (by simp only [List.getElem?_toArray, List.getElem?_cons_zero]; exact rfl) rfl) rfl (fun w' hS hV K hK => ?_) ?_
      · have q2 := hS.1; obtain ⟨q0, q1⟩ := hS.2.1.two
        go_simp
        exact hK.out _ _ _ rfl rfl rfl (Below.refl _ _)
      simp only [List.setIfInBounds_toArray, List.set_cons_zero, List.set_cons_succ]
      refine obs_step (Eq.trans (by simp only [List.getElem?_toArray, List.getElem?_cons_succ, List.getElem?_cons_zero]; exact rfl) rfl) rfl (fun w' hS hV K hK => ?_) ?_
      · have e0 : x 0 = (.slice (some ⟨gg, og, none⟩) 1 cg) := hV 0 (by decide)
        have q2 := hS.1; obtain ⟨q0, q1⟩ := hS.2.1.two
        go_simp
        exact hK.out _ _ _ rfl rfl rfl (Below.refl _ _)
      simp only [List.setIfInBounds_toArray, List.set_cons_zero, List.set_cons_succ]
      refine obs_step (Eq.trans (by simp only [List.getElem?_toArray, List.getElem?_cons_succ, List.getElem?_cons_zero]; exact rfl) rfl) rfl (fun w' hS hV K hK => ?_) ?_
      · have e0 : x 0 = (.slice (some ⟨gg, og, none⟩) 1 cg) := hV 0 (by decide)
        have e1 : x 1 = (.int .i64 ((1 : Nat))) := hV 1 (by decide)
        have q2 := hS.1; obtain ⟨q0, q1⟩ := hS.2.1.two
        go_simp
        exact hK.out _ _ _ rfl rfl rfl (Below.refl _ _)
      simp only [List.setIfInBounds_toArray, List.set_cons_zero, List.set_cons_succ]
      refine obs_step (Eq.trans (by simp only [List.getElem?_toArray, List.getElem?_cons_succ, List.getElem?_cons_zero]; exact rfl) rfl) rfl (fun w' hS hV K hK => ?_) ?_
      · have e0 : x 0 = (.slice (some ⟨gg, og, none⟩) 1 cg) := hV 0 (by decide)
        have e1 : x 1 = (.int .i64 ((1 : Nat))) := hV 1 (by decide)
        have e2 : x 2 = (.bool true) := hV 2 (by decide)
        have q2 := hS.1; obtain ⟨q0, q1⟩ := hS.2.1.two
        go_simp
        exact hK.out _ _ _ rfl rfl rfl (Below.refl _ _)
      simp only [List.setIfInBounds_toArray, List.set_cons_zero, List.set_cons_succ]
      refine obs_step (Eq.trans (by simp only [List.getElem?_toArray, List.getElem?_cons_succ, List.getElem?_cons_zero]; exact rfl) rfl) rfl (fun w' hS hV K hK => ?_) ?_
      · have e0 : x 0 = (.slice (some ⟨gg, og, none⟩) 1 cg) := hV 0 (by decide)
        have e1 : x 1 = (.int .i64 ((1 : Nat))) := hV 1 (by decide)
        have e2 : x 2 = (.bool true) := hV 2 (by decide)
        have e3 : x 3 = (.bool true) := hV 3 (by decide)
        have q2 := hS.1; obtain ⟨q0, q1⟩ := hS.2.1.two
        go_simp
        exact hK.out _ _ _ rfl rfl rfl (Below.refl _ _)
      simp only [List.setIfInBounds_toArray, List.set_cons_zero, List.set_cons_succ]
      refine obs_step (Eq.trans (by simp only [List.getElem?_toArray, List.getElem?_cons_succ, List.getElem?_cons_zero]; exact rfl) rfl) rfl (fun w' hS hV K hK => ?_) ?_
      · have e0 : x 0 = (.slice (some ⟨gg, og, none⟩) 1 cg) := hV 0 (by decide)
        have e1 : x 1 = (.int .i64 ((1 : Nat))) := hV 1 (by decide)
        have e2 : x 2 = (.bool true) := hV 2 (by decide)
        have e3 : x 3 = (.bool true) := hV 3 (by decide)
        have q2 := hS.1; obtain ⟨q0, q1⟩ := hS.2.1.two
        go_simp
        exact hK.out _ _ _ rfl rfl rfl (Below.refl _ _)
      simp only [List.setIfInBounds_toArray, List.set_cons_zero, List.set_cons_succ]
      refine obs_step (Eq.trans (by simp only [List.getElem?_toArray, List.getElem?_cons_succ, List.getElem?_cons_zero]; exact rfl) rfl) rfl (fun w' hS hV K hK => ?_) ?_
      · have e0 : x 0 = (.slice (some ⟨gg, og, none⟩) 1 cg) := hV 0 (by decide)
        have e1 : x 1 = (.int .i64 ((1 : Nat))) := hV 1 (by decide)
        have e2 : x 2 = (.bool true) := hV 2 (by decide)
        have e3 : x 3 = (.bool true) := hV 3 (by decide)
        have e4 : x 4 = (.agg #[.int .i64 P, .slice A n c]) := hV 4 (by decide)
        have e5 : x 5 = (.slice X (pw n) cx) := hV 5 (by decide)
        have q2 := hS.1; obtain ⟨q0, q1⟩ := hS.2.1.two
        go_simp
        refine (HSUB.out _ hS.2.2).mono ?_
        rw [← HQ.out]
        rintro e v1 ⟨A2, c2, rfl, hM⟩
        exact hK.out _ _ _ rfl rfl ⟨_, _, rfl, hM.after hS.2.2⟩ hM.b
      simp only [List.setIfInBounds_toArray, List.set_cons_zero, List.set_cons_succ]
      refine obs_step (Eq.trans (by simp only [List.getElem?_toArray, List.getElem?_cons_succ, List.getElem?_cons_zero]; exact rfl) rfl) rfl (fun w' hS hV K hK => ?_) ?_
      · have e0 : x 0 = (.slice (some ⟨gg, og, none⟩) 1 cg) := hV 0 (by decide)
        have e1 : x 1 = (.int .i64 ((1 : Nat))) := hV 1 (by decide)
        have e2 : x 2 = (.bool true) := hV 2 (by decide)
        have e3 : x 3 = (.bool true) := hV 3 (by decide)
        have e4 : x 4 = (.agg #[.int .i64 P, .slice A n c]) := hV 4 (by decide)
        have e5 : x 5 = (.slice X (pw n) cx) := hV 5 (by decide)
        obtain ⟨A6, c6, e6, h6⟩ := hV 6 (by decide)
        have q2 := hS.1; obtain ⟨q0, q1⟩ := hS.2.1.two
        go_simp
        exact hK.out _ _ _ rfl rfl rfl (Below.refl _ _)
      simp only [List.setIfInBounds_toArray, List.set_cons_zero, List.set_cons_succ]
      refine obs_step (Eq.trans (by simp only [List.getElem?_toArray, List.getElem?_cons_succ, List.getElem?_cons_zero]; exact rfl) rfl) rfl (fun w' hS hV K hK => ?_) ?_
      · have e0 : x 0 = (.slice (some ⟨gg, og, none⟩) 1 cg) := hV 0 (by decide)
        have e1 : x 1 = (.int .i64 ((1 : Nat))) := hV 1 (by decide)
        have e2 : x 2 = (.bool true) := hV 2 (by decide)
        have e3 : x 3 = (.bool true) := hV 3 (by decide)
        have q2 := hS.1; obtain ⟨q0, q1⟩ := hS.2.1.two
        go_simp
        exact hK.out _ _ _ rfl rfl rfl (Below.refl _ _)
      simp only [List.setIfInBounds_toArray, List.set_cons_zero, List.set_cons_succ]
      refine obs_step (Eq.trans (by simp only [List.getElem?_toArray, List.getElem?_cons_succ, List.getElem?_cons_zero]; exact rfl) rfl) rfl (fun w' hS hV K hK => ?_) ?_
      · have e0 : x 0 = (.slice (some ⟨gg, og, none⟩) 1 cg) := hV 0 (by decide)
        have e1 : x 1 = (.int .i64 ((1 : Nat))) := hV 1 (by decide)
        have e2 : x 2 = (.bool true) := hV 2 (by decide)
        have e3 : x 3 = (.bool true) := hV 3 (by decide)
        have e8 : x 8 = (.slice (some ⟨gg, og, none⟩) 1 cg) := hV 8 (by decide)
        have q2 := hS.1; obtain ⟨q0, q1⟩ := hS.2.1.two
        go_simp
        exact hK.out _ _ _ rfl rfl rfl (Below.refl _ _)
      simp only [List.setIfInBounds_toArray, List.set_cons_zero, List.set_cons_succ]
      refine obs_step (Eq.trans (by simp only [List.getElem?_toArray, List.getElem?_cons_succ, List.getElem?_cons_zero]; exact rfl) rfl) rfl (fun w' hS hV K hK => ?_) ?_
      · have e0 : x 0 = (.slice (some ⟨gg, og, none⟩) 1 cg) := hV 0 (by decide)
        have e1 : x 1 = (.int .i64 ((1 : Nat))) := hV 1 (by decide)
        have e2 : x 2 = (.bool true) := hV 2 (by decide)
        have e3 : x 3 = (.bool true) := hV 3 (by decide)
        have e8 : x 8 = (.slice (some ⟨gg, og, none⟩) 1 cg) := hV 8 (by decide)
        have e9 : x 9 = (.pointer (some ⟨gg, og, none⟩)) := hV 9 (by decide)
        have q2 := hS.1; obtain ⟨q0, q1⟩ := hS.2.1.two
        go_simp
        exact hK.out _ _ _ rfl rfl rfl (Below.refl _ _)
      simp only [List.setIfInBounds_toArray, List.set_cons_zero, List.set_cons_succ]
      refine obs_step (Eq.trans (by simp only [List.getElem?_toArray, List.getElem?_cons_succ, List.getElem?_cons_zero]; exact rfl) rfl) rfl (fun w' hS hV K hK => ?_) ?_
      · have e0 : x 0 = (.slice (some ⟨gg, og, none⟩) 1 cg) := hV 0 (by decide)
        have e1 : x 1 = (.int .i64 ((1 : Nat))) := hV 1 (by decide)
        have e2 : x 2 = (.bool true) := hV 2 (by decide)
        have e3 : x 3 = (.bool true) := hV 3 (by decide)
        have e4 : x 4 = (.agg #[.int .i64 P, .slice A n c]) := hV 4 (by decide)
        have e5 : x 5 = (.slice X (pw n) cx) := hV 5 (by decide)
        obtain ⟨A6, c6, e6, h6⟩ := hV 6 (by decide)
        have e7 : x 7 = (.int .i64 (q)) := hV 7 (by decide)
        have e8 : x 8 = (.slice (some ⟨gg, og, none⟩) 1 cg) := hV 8 (by decide)
        have e9 : x 9 = (.pointer (some ⟨gg, og, none⟩)) := hV 9 (by decide)
        have e10 : x 10 = (.int .i64 (gv)) := hV 10 (by decide)
        have q2 := hS.1; obtain ⟨q0, q1⟩ := hS.2.1.two
        go_simp
        exact hK.out _ _ _ rfl rfl rfl (Below.refl _ _)
      simp only [List.setIfInBounds_toArray, List.set_cons_zero, List.set_cons_succ]
      refine obs_step (Eq.trans (by simp only [List.getElem?_toArray, List.getElem?_cons_succ, List.getElem?_cons_zero]; exact rfl) rfl) rfl (fun w' hS hV K hK => ?_) ?_
      · have e0 : x 0 = (.slice (some ⟨gg, og, none⟩) 1 cg) := hV 0 (by decide)
        have e1 : x 1 = (.int .i64 ((1 : Nat))) := hV 1 (by decide)
        have e2 : x 2 = (.bool true) := hV 2 (by decide)
        have e3 : x 3 = (.bool true) := hV 3 (by decide)
        have e4 : x 4 = (.agg #[.int .i64 P, .slice A n c]) := hV 4 (by decide)
        have e5 : x 5 = (.slice X (pw n) cx) := hV 5 (by decide)
        obtain ⟨A6, c6, e6, h6⟩ := hV 6 (by decide)
        have e7 : x 7 = (.int .i64 (q)) := hV 7 (by decide)
        have e8 : x 8 = (.slice (some ⟨gg, og, none⟩) 1 cg) := hV 8 (by decide)
        have e9 : x 9 = (.pointer (some ⟨gg, og, none⟩)) := hV 9 (by decide)
        have e10 : x 10 = (.int .i64 (gv)) := hV 10 (by decide)
        have e11 : x 11 = (.bool true) := hV 11 (by decide)
        have q2 := hS.1; obtain ⟨q0, q1⟩ := hS.2.1.two
        go_simp
        exact hK.out _ _ _ rfl rfl rfl (Below.refl _ _)
      simp only [List.setIfInBounds_toArray, List.set_cons_zero, List.set_cons_succ]
      refine obs_step (Eq.trans (by simp only [List.getElem?_toArray, List.getElem?_cons_succ, List.getElem?_cons_zero]; exact rfl) rfl) rfl (fun w' hS hV K hK => ?_) ?_
      · have e0 : x 0 = (.slice (some ⟨gg, og, none⟩) 1 cg) := hV 0 (by decide)
        have e1 : x 1 = (.int .i64 ((1 : Nat))) := hV 1 (by decide)
        have e2 : x 2 = (.bool true) := hV 2 (by decide)
        have e3 : x 3 = (.bool true) := hV 3 (by decide)
        have e4 : x 4 = (.agg #[.int .i64 P, .slice A n c]) := hV 4 (by decide)
        have e5 : x 5 = (.slice X (pw n) cx) := hV 5 (by decide)
        obtain ⟨A6, c6, e6, h6⟩ := hV 6 (by decide)
        have e7 : x 7 = (.int .i64 (q)) := hV 7 (by decide)
        have e8 : x 8 = (.slice (some ⟨gg, og, none⟩) 1 cg) := hV 8 (by decide)
        have e9 : x 9 = (.pointer (some ⟨gg, og, none⟩)) := hV 9 (by decide)
        have e10 : x 10 = (.int .i64 (gv)) := hV 10 (by decide)
        have e11 : x 11 = (.bool true) := hV 11 (by decide)
        have e12 : x 12 = (.bool true) := hV 12 (by decide)
        have q2 := hS.1; obtain ⟨q0, q1⟩ := hS.2.1.two
        go_simp
        exact hK.out _ _ _ rfl rfl rfl (Below.refl _ _)
      simp only [List.setIfInBounds_toArray, List.set_cons_zero, List.set_cons_succ]
      refine fun w' hS hV => ?_
      have e0 : x 0 = (.slice (some ⟨gg, og, none⟩) 1 cg) := hV 0 (by decide)
      have e1 : x 1 = (.int .i64 ((1 : Nat))) := hV 1 (by decide)
      have e2 : x 2 = (.bool true) := hV 2 (by decide)
      have e3 : x 3 = (.bool true) := hV 3 (by decide)
      have e4 : x 4 = (.agg #[.int .i64 P, .slice A n c]) := hV 4 (by decide)
      have e5 : x 5 = (.slice X (pw n) cx) := hV 5 (by decide)
      obtain ⟨A6, c6, e6, h6⟩ := hV 6 (by decide)
      have e7 : x 7 = (.int .i64 (q)) := hV 7 (by decide)
      have e8 : x 8 = (.slice (some ⟨gg, og, none⟩) 1 cg) := hV 8 (by decide)
      have e9 : x 9 = (.pointer (some ⟨gg, og, none⟩)) := hV 9 (by decide)
      have e10 : x 10 = (.int .i64 (gv)) := hV 10 (by decide)
      have e11 : x 11 = (.bool true) := hV 11 (by decide)
      have e12 : x 12 = (.bool true) := hV 12 (by decide)
      have e13 : x 13 = (.bool true) := hV 13 (by decide)
      simp only [e0, e1, e2, e3, e4, e5, e6, e7, e8, e9, e10, e11, e12, e13]
      clear e0 e1 e2 e3 e4 e5 e6 e7 e8 e9 e10 e11 e12 e13
      refine wpAny_done (by kernel_rfl) ?_ _
      go_wp2
      go_ret
      exact ⟨ret_bool HZ.out.symm, hS.2.2⟩
  · have HZ : Hid (isBl P sq n xs = false) := Lib.hid (by rw [HGL.out]; simp [h1])
    have hm1 : (((m : Nat) : Int) == 1) = false := by simp; omega
    clear hgr hm
    go_wp2
    refine wp_obs 14 [[], [0], [0, 1], [0, 1, 2], [0, 1, 2, 3], [0, 1, 2, 3], [0, 1, 2, 3, 4, 5], [0, 1, 2, 3, 4, 5, 6], [0, 1, 2, 3], [0, 1, 2, 3, 8], [0, 1, 2, 3, 8, 9], [0, 1, 2, 3, 4, 5, 6, 7, 8, 9, 10], [0, 1, 2, 3, 4, 5, 6, 7, 8, 9, 10, 11], [0, 1, 2, 3, 4, 5, 6, 7, 8, 9, 10, 11, 12]] [VIs (.slice G m cg), VIs (.int .i64 (m)), VIs (.bool false), VIs (.bool false), VIs undef, VIs undef, VIs undef, VIs undef, VIs undef, VIs undef, VIs undef, VIs undef, VIs (.bool false), VIs (.bool false)] (fun w' => Blk w' w.heap.size 28 #[.int .i64 P, .slice A n c] ∧ Below w.heap.size w w') (by kernel_rfl) (by kernel_rfl) (fun _ _ h hb => ⟨h.1.below hb h.1.lt, h.2.trans (hb.mono h.2.size)⟩) (⟨k1.drew, hB1.drew⟩) (fun x => ?_)
    refine obs_step (Eq.trans (by simp only [List.getElem?_toArray, List.getElem?_cons_zero]; exact rfl) rfl) rfl (fun w' hS hV K hK => ?_) ?_
    · obtain ⟨q0, q1⟩ := hS.1.two
      go_simp
      exact hK.out _ _ _ rfl rfl rfl (Below.refl _ _)
    simp only [List.setIfInBounds_toArray, List.set_cons_zero, List.set_cons_succ]
    refine obs_step (Eq.trans (by simp only [List.getElem?_toArray, List.getElem?_cons_succ, List.getElem?_cons_zero]; exact rfl) rfl) rfl (fun w' hS hV K hK => ?_) ?_
    · have e0 : x 0 = (.slice G m cg) := hV 0 (by decide)
      obtain ⟨q0, q1⟩ := hS.1.two
      go_simp
      exact hK.out _ _ _ rfl rfl rfl (Below.refl _ _)
    simp only [List.setIfInBounds_toArray, List.set_cons_zero, List.set_cons_succ]
    refine obs_step (Eq.trans (by simp only [List.getElem?_toArray, List.getElem?_cons_succ, List.getElem?_cons_zero]; exact rfl) rfl) rfl (fun w' hS hV K hK => ?_) ?_
    · have e0 : x 0 = (.slice G m cg) := hV 0 (by decide)
      have e1 : x 1 = (.int .i64 (m)) := hV 1 (by decide)
      obtain ⟨q0, q1⟩ := hS.1.two
      go_simp
      exact hK.out _ _ _ rfl rfl rfl (Below.refl _ _)
    simp only [List.setIfInBounds_toArray, List.set_cons_zero, List.set_cons_succ]
    refine obs_step (Eq.trans (by simp only [List.getElem?_toArray, List.getElem?_cons_succ, List.getElem?_cons_zero]; exact rfl) rfl) rfl (fun w' hS hV K hK => ?_) ?_
    · have e0 : x 0 = (.slice G m cg) := hV 0 (by decide)
      have e1 : x 1 = (.int .i64 (m)) := hV 1 (by decide)
      have e2 : x 2 = (.bool false) := hV 2 (by decide)
      obtain ⟨q0, q1⟩ := hS.1.two
      go_simp
      exact hK.out _ _ _ rfl rfl rfl (Below.refl _ _)
    simp only [List.setIfInBounds_toArray, List.set_cons_zero, List.set_cons_succ]
    refine obs_step (Eq.trans (by simp only [List.getElem?_toArray, List.getElem?_cons_succ, List.getElem?_cons_zero]; exact rfl) rfl) rfl (fun w' hS hV K hK => ?_) ?_
    · have e0 : x 0 = (.slice G m cg) := hV 0 (by decide)
      have e1 : x 1 = (.int .i64 (m)) := hV 1 (by decide)
      have e2 : x 2 = (.bool false) := hV 2 (by decide)
      have e3 : x 3 = (.bool false) := hV 3 (by decide)
      obtain ⟨q0, q1⟩ := hS.1.two
      go_simp
      exact hK.out _ _ _ rfl rfl rfl (Below.refl _ _)
    simp only [List.setIfInBounds_toArray, List.set_cons_zero, List.set_cons_succ]
    refine obs_step (Eq.trans (by simp only [List.getElem?_toArray, List.getElem?_cons_succ, List.getElem?_cons_zero]; exact rfl) rfl) rfl (fun w' hS hV K hK => ?_) ?_
    · have e0 : x 0 = (.slice G m cg) := hV 0 (by decide)
      have e1 : x 1 = (.int .i64 (m)) := hV 1 (by decide)
      have e2 : x 2 = (.bool false) := hV 2 (by decide)
      have e3 : x 3 = (.bool false) := hV 3 (by decide)
      obtain ⟨q0, q1⟩ := hS.1.two
      go_simp
      exact hK.out _ _ _ rfl rfl rfl (Below.refl _ _)
    simp only [List.setIfInBounds_toArray, List.set_cons_zero, List.set_cons_succ]
    refine obs_step (Eq.trans (by simp only [List.getElem?_toArray, List.getElem?_cons_succ, List.getElem?_cons_zero]; exact rfl) rfl) rfl (fun w' hS hV K hK => ?_) ?_
    · have e0 : x 0 = (.slice G m cg) := hV 0 (by decide)
      have e1 : x 1 = (.int .i64 (m)) := hV 1 (by decide)
      have e2 : x 2 = (.bool false) := hV 2 (by decide)
      have e3 : x 3 = (.bool false) := hV 3 (by decide)
      have e4 : x 4 = undef := hV 4 (by decide)
      have e5 : x 5 = undef := hV 5 (by decide)
      obtain ⟨q0, q1⟩ := hS.1.two
      go_simp
      exact hK.out _ _ _ rfl rfl rfl (Below.refl _ _)
    simp only [List.setIfInBounds_toArray, List.set_cons_zero, List.set_cons_succ]
    refine obs_step (Eq.trans (by simp only [List.getElem?_toArray, List.getElem?_cons_succ, List.getElem?_cons_zero]; exact rfl) rfl) rfl (fun w' hS hV K hK => ?_) ?_
    · have e0 : x 0 = (.slice G m cg) := hV 0 (by decide)
      have e1 : x 1 = (.int .i64 (m)) := hV 1 (by decide)
      have e2 : x 2 = (.bool false) := hV 2 (by decide)
      have e3 : x 3 = (.bool false) := hV 3 (by decide)
      have e4 : x 4 = undef := hV 4 (by decide)
      have e5 : x 5 = undef := hV 5 (by decide)
      have e6 : x 6 = undef := hV 6 (by decide)
      obtain ⟨q0, q1⟩ := hS.1.two
      go_simp
      exact hK.out _ _ _ rfl rfl rfl (Below.refl _ _)
    simp only [List.setIfInBounds_toArray, List.set_cons_zero, List.set_cons_succ]
    refine obs_step (Eq.trans (by simp only [List.getElem?_toArray, List.getElem?_cons_succ, List.getElem?_cons_zero]; exact rfl) rfl) rfl (fun w' hS hV K hK => ?_) ?_
    · have e0 : x 0 = (.slice G m cg) := hV 0 (by decide)
      have e1 : x 1 = (.int .i64 (m)) := hV 1 (by decide)
      have e2 : x 2 = (.bool false) := hV 2 (by decide)
      have e3 : x 3 = (.bool false) := hV 3 (by decide)
      obtain ⟨q0, q1⟩ := hS.1.two
      go_simp
      exact hK.out _ _ _ rfl rfl rfl (Below.refl _ _)
    simp only [List.setIfInBounds_toArray, List.set_cons_zero, List.set_cons_succ]
    refine obs_step (Eq.trans (by simp only [List.getElem?_toArray, List.getElem?_cons_succ, List.getElem?_cons_zero]; exact rfl) rfl) rfl (fun w' hS hV K hK => ?_) ?_
    · have e0 : x 0 = (.slice G m cg) := hV 0 (by decide)
      have e1 : x 1 = (.int .i64 (m)) := hV 1 (by decide)
      have e2 : x 2 = (.bool false) := hV 2 (by decide)
      have e3 : x 3 = (.bool false) := hV 3 (by decide)
      have e8 : x 8 = undef := hV 8 (by decide)
      obtain ⟨q0, q1⟩ := hS.1.two
      go_simp
      exact hK.out _ _ _ rfl rfl rfl (Below.refl _ _)
    simp only [List.setIfInBounds_toArray, List.set_cons_zero, List.set_cons_succ]
    refine obs_step (Eq.trans (by simp only [List.getElem?_toArray, List.getElem?_cons_succ, List.getElem?_cons_zero]; exact rfl) rfl) rfl (fun w' hS hV K hK => ?_) ?_
    · have e0 : x 0 = (.slice G m cg) := hV 0 (by decide)
      have e1 : x 1 = (.int .i64 (m)) := hV 1 (by decide)
      have e2 : x 2 = (.bool false) := hV 2 (by decide)
      have e3 : x 3 = (.bool false) := hV 3 (by decide)
      have e8 : x 8 = undef := hV 8 (by decide)
      have e9 : x 9 = undef := hV 9 (by decide)
      obtain ⟨q0, q1⟩ := hS.1.two
      go_simp
      exact hK.out _ _ _ rfl rfl rfl (Below.refl _ _)
    simp only [List.setIfInBounds_toArray, List.set_cons_zero, List.set_cons_succ]
    refine obs_step (Eq.trans (by simp only [List.getElem?_toArray, List.getElem?_cons_succ, List.getElem?_cons_zero]; exact rfl) rfl) rfl (fun w' hS hV K hK => ?_) ?_
    · have e0 : x 0 = (.slice G m cg) := hV 0 (by decide)
      have e1 : x 1 = (.int .i64 (m)) := hV 1 (by decide)
      have e2 : x 2 = (.bool false) := hV 2 (by decide)
      have e3 : x 3 = (.bool false) := hV 3 (by decide)
      have e4 : x 4 = undef := hV 4 (by decide)
      have e5 : x 5 = undef := hV 5 (by decide)
      have e6 : x 6 = undef := hV 6 (by decide)
      have e7 : x 7 = undef := hV 7 (by decide)
      have e8 : x 8 = undef := hV 8 (by decide)
      have e9 : x 9 = undef := hV 9 (by decide)
      have e10 : x 10 = undef := hV 10 (by decide)
      obtain ⟨q0, q1⟩ := hS.1.two
      go_simp
      exact hK.out _ _ _ rfl rfl rfl (Below.refl _ _)
    simp only [List.setIfInBounds_toArray, List.set_cons_zero, List.set_cons_succ]
    refine obs_step (Eq.trans (by simp only [List.getElem?_toArray, List.getElem?_cons_succ, List.getElem?_cons_zero]; exact rfl) rfl) rfl (fun w' hS hV K hK => ?_) ?_
    · have e0 : x 0 = (.slice G m cg) := hV 0 (by decide)
      have e1 : x 1 = (.int .i64 (m)) := hV 1 (by decide)
      have e2 : x 2 = (.bool false) := hV 2 (by decide)
      have e3 : x 3 = (.bool false) := hV 3 (by decide)
      have e4 : x 4 = undef := hV 4 (by decide)
      have e5 : x 5 = undef := hV 5 (by decide)
      have e6 : x 6 = undef := hV 6 (by decide)
      have e7 : x 7 = undef := hV 7 (by decide)
      have e8 : x 8 = undef := hV 8 (by decide)
      have e9 : x 9 = undef := hV 9 (by decide)
      have e10 : x 10 = undef := hV 10 (by decide)
      have e11 : x 11 = undef := hV 11 (by decide)
      obtain ⟨q0, q1⟩ := hS.1.two
      go_simp
      exact hK.out _ _ _ rfl rfl rfl (Below.refl _ _)
    simp only [List.setIfInBounds_toArray, List.set_cons_zero, List.set_cons_succ]
    refine obs_step (Eq.trans (by simp only [List.getElem?_toArray, List.getElem?_cons_succ, List.getElem?_cons_zero]; exact rfl) rfl) rfl (fun w' hS hV K hK => ?_) ?_
    · have e0 : x 0 = (.slice G m cg) := hV 0 (by decide)
      have e1 : x 1 = (.int .i64 (m)) := hV 1 (by decide)
      have e2 : x 2 = (.bool false) := hV 2 (by decide)
      have e3 : x 3 = (.bool false) := hV 3 (by decide)
      have e4 : x 4 = undef := hV 4 (by decide)
      have e5 : x 5 = undef := hV 5 (by decide)
      have e6 : x 6 = undef := hV 6 (by decide)
      have e7 : x 7 = undef := hV 7 (by decide)
      have e8 : x 8 = undef := hV 8 (by decide)
      have e9 : x 9 = undef := hV 9 (by decide)
      have e10 : x 10 = undef := hV 10 (by decide)
      have e11 : x 11 = undef := hV 11 (by decide)
      have e12 : x 12 = (.bool false) := hV 12 (by decide)
      obtain ⟨q0, q1⟩ := hS.1.two
      go_simp
      exact hK.out _ _ _ rfl rfl rfl (Below.refl _ _)
    simp only [List.setIfInBounds_toArray, List.set_cons_zero, List.set_cons_succ]
    refine fun w' hS hV => ?_
    have e0 : x 0 = (.slice G m cg) := hV 0 (by decide)
    have e1 : x 1 = (.int .i64 (m)) := hV 1 (by decide)
    have e2 : x 2 = (.bool false) := hV 2 (by decide)
    have e3 : x 3 = (.bool false) := hV 3 (by decide)
    have e4 : x 4 = undef := hV 4 (by decide)
    have e5 : x 5 = undef := hV 5 (by decide)
    have e6 : x 6 = undef := hV 6 (by decide)
    have e7 : x 7 = undef := hV 7 (by decide)
    have e8 : x 8 = undef := hV 8 (by decide)
    have e9 : x 9 = undef := hV 9 (by decide)
    have e10 : x 10 = undef := hV 10 (by decide)
    have e11 : x 11 = undef := hV 11 (by decide)
    have e12 : x 12 = (.bool false) := hV 12 (by decide)
    have e13 : x 13 = (.bool false) := hV 13 (by decide)
    simp only [e0, e1, e2, e3, e4, e5, e6, e7, e8, e9, e10, e11, e12, e13]
    clear e0 e1 e2 e3 e4 e5 e6 e7 e8 e9 e10 e11 e12 e13
    refine wpAny_done (by kernel_rfl) ?_ _
    go_wp2
    go_ret
    exact ⟨ret_bool HZ.out.symm, hS.2⟩
set_option maxHeartbeats 3200000 in
set_option maxRecDepth 8000 in
theorem checkBlades_any (P : Int) (A B : Option Addr) (n c m d : Nat) (sq : List Int) (ms : List (List Int)) (w : World) (hn : n ≤ 1048576) (hm : m ≤ 1048576) (ha : Rd w A n (ints sq)) (hb : RdII w B m ms) (hms : ∀ ys ∈ ms, ys.length ≤ 1048576) :
    Calls Tryz.prog 60 #[.agg #[.int .i64 P, .slice A n c], .slice B m d] w fun e w' => e = .returned (.int .i64 (codeL P sq ms)) ∧ Below w.heap.size w w' := by
  have hB0 : Below w.heap.size w (w.alloc (.cells #[.int .i64 P, .slice A n c] 28)) := (Below.refl _ _).alloc (Nat.le_refl _) _
  have k0 : Blk (w.alloc (.cells #[.int .i64 P, .slice A n c] 28)) w.heap.size 28 #[.int .i64 P, .slice A n c] := Blk.new _ _ _
  have hcm := checkMultis_any P A B n c m d sq ms _ hn hm (ha.below hB0) (hb.below hB0) hms
  by_cases e1 : codeM P sq ms = 0
  · obtain ⟨HP, _, _, hd1, hd2, hs, hms2⟩ := codeM_spec3 e1
    have hnl := ha.lenI
    rw [hnl] at hd1 hd2
    have HNL := Lib.hid hnl
    have hml := hb.len
    rw [e1] at hcm
    have E1 := Lib.hid e1
    have HMS2 := Lib.hid hms2
    have HS := Lib.hid hs
    have HPP := Lib.hid HP
    have HML := Lib.hid hml
    clear e1 hms2 hms hs hml hnl HP
    go_enter Tryz.func60, Tryz.ntmps60
    go_wp2_with fail
    refine hcm.mono ?_
    rintro e w1 ⟨rfl, hb1⟩
    have hB1 := hB0.trans (hb1.mono (by simp))
    have k1 := k0.below hb1 k0.lt
    clear k0 hB0 hb1
    go_wp2
    go_loopw [7, 16] (fun _ i wr => ∃ k : Nat, k ≤ m ∧ i = .int .i64 k ∧ Hid ((ms.take k).all (isBl P sq n) = true) ∧ Below w.heap.size w wr ∧ Blk wr w.heap.size 28 #[.int .i64 P, .slice A n c]) (fun _ i _ => m - (intOf i).toNat)
    case atStart => exact ⟨0, by omega, rfl, Lib.hid (by simp), hB1, k1⟩
    case round =>
      obtain ⟨k, hk, rfl, HT, hBr, k2⟩ := hrel
      clear hB1 k1
      obtain ⟨q0, q1⟩ := k2.two
      by_cases hlt : k < m
      · obtain ⟨g, o, rfl, hxk, A', c', hcx, hr0, hcc⟩ := (hb.below hBr).at_ hlt
        have HXN := Lib.hid (HMS2.out ms[k] (List.getElem_mem hxk))
        have hl1 := HXN.out.1
        rw [HNL.out] at hl1
        rw [hl1] at hcx hr0
        have hcall := fun w' (hb : Below wr.heap.size wr w') => isBlade_any P A n c sq A' c' ms[k] w' HPP.out hd2 hd1 (ha.below (hBr.trans (hb.mono hBr.size))) HS.out (hr0.below hb) HXN.out.2
        have HC := Lib.hid hcall
        have HMEM := Lib.hid (List.getElem_mem hxk)
        have HTK : Hid (isBl P sq n ms[k] = true → (ms.take (k + 1)).all (isBl P sq n) = true) := Lib.hid (fun h => all_take3 hxk HT.out h)
        obtain ⟨x, hx⟩ : ∃ x, x = ms[k] := ⟨_, rfl⟩
        rw [← hx] at HC HMEM HTK
        clear hl1 hcall hr0 hcc hx HXN hxk
        cases ho : isBl P sq n x
        all_goals
          have HO := Lib.hid ho
          clear ho
          go_wp2_with fail
          refine (HC.out _ (Below.refl _ _)).mono ?_
          rintro e w2 ⟨rfl, hb2⟩
          rw [HO.out]
          have HB5 := hBr.trans (hb2.mono hBr.size)
          have K5 := k2.below hb2 k2.lt
          go_wp2
        · go_ret
          exact ⟨ret_int (codeL_bad E1.out HMEM.out (by rw [HNL.out]; exact HO.out)).symm, HB5⟩
        · go_roundw
          case rel => exact ⟨k + 1, by omega, by go_num, Lib.hid (HTK.out HO.out), HB5, K5⟩
          case measure => simp [intOf]; omega
      · go_wp2
        go_ret
        refine ⟨ret_int (codeL_good E1.out ?_).symm, hBr⟩
        have := HT.out
        rw [List.take_of_length_le (by rw [HML.out]; omega)] at this
        rw [HNL.out]; exact this
  · obtain ⟨r, hr⟩ : ∃ r, r = codeM P sq ms := ⟨_, rfl⟩
    have E1 := Lib.hid e1
    have HR := Lib.hid hr
    have b0 : (r != 0) = true := code_ne (by rw [hr]; exact e1)
    rw [← hr] at hcm
    clear e1 hr hms
    go_enter Tryz.func60, Tryz.ntmps60
    go_wp2_with fail
    refine hcm.mono ?_
    rintro e w1 ⟨rfl, hb1⟩
    go_wp2
    go_ret
    exact ⟨ret_int (by rw [codeL_ne E1.out, HR.out]), hB0.trans (hb1.mono (by simp))⟩
set_option maxHeartbeats 3200000 in
set_option maxRecDepth 8000 in
theorem l06Code_any (P : Int) (A B : Option Addr) (n c m d : Nat) (sq : List Int) (ms : List (List Int)) (w : World) (hn : n ≤ 1048576) (hm : m ≤ 1048576) (ha : Rd w A n (ints sq)) (hb : RdII w B m ms) (hms : ∀ ys ∈ ms, ys.length ≤ 1048576) :
    Calls Tryz.prog 58 #[.agg #[.int .i64 P, .slice A n c], .slice B m d] w fun e w' => e = .returned (.int .i64 (codeL P sq ms)) ∧ Below w.heap.size w w' := by
  have hB0 : Below w.heap.size w (w.alloc (.cells #[.int .i64 P, .slice A n c] 28)) := (Below.refl _ _).alloc (Nat.le_refl _) _
  have k0 : Blk (w.alloc (.cells #[.int .i64 P, .slice A n c] 28)) w.heap.size 28 #[.int .i64 P, .slice A n c] := Blk.new _ _ _
  have hcm := l04Code_any P A B n c m d sq ms _ hn hm (ha.below hB0) (hb.below hB0) hms
  by_cases e1 : codeM P sq ms = 0
  · obtain ⟨HP, _, _, hd1, hd2, hs, hms2⟩ := codeM_spec3 e1
    have hnl := ha.lenI
    rw [hnl] at hd1 hd2
    have HNL := Lib.hid hnl
    have hml := hb.len
    rw [e1] at hcm
    have E1 := Lib.hid e1
    have HMS2 := Lib.hid hms2
    have HS := Lib.hid hs
    have HPP := Lib.hid HP
    have HML := Lib.hid hml
    clear e1 hms2 hms hs hml hnl HP
    go_enter Tryz.func58, Tryz.ntmps58
    go_wp2_with fail
    refine hcm.mono ?_
    rintro e w1 ⟨rfl, hb1⟩
    have hB1 := hB0.trans (hb1.mono (by simp))
    have k1 := k0.below hb1 k0.lt
    clear k0 hB0 hb1
    go_wp2
    go_loopw [6] (fun i wr => ∃ k : Nat, k ≤ m ∧ i = .int .i64 k ∧ Hid ((ms.take k).all (isBl P sq n) = true) ∧ Below w.heap.size w wr ∧ Blk wr w.heap.size 28 #[.int .i64 P, .slice A n c]) (fun i _ => m - (intOf i).toNat)
    case atStart => exact ⟨0, by omega, rfl, Lib.hid (by simp), hB1, k1⟩
    case round =>
      obtain ⟨k, hk, rfl, HT, hBr, k2⟩ := hrel
      clear hB1 k1
      obtain ⟨q0, q1⟩ := k2.two
      by_cases hlt : k < m
      · obtain ⟨g, o, rfl, hxk, A', c', hcx, hr0, hcc⟩ := (hb.below hBr).at_ hlt
        have HXN := Lib.hid (HMS2.out ms[k] (List.getElem_mem hxk))
        have hl1 := HXN.out.1
        rw [HNL.out] at hl1
        rw [hl1] at hcx hr0
        have hcall := fun w' (hb : Below wr.heap.size wr w') => l06Is_any P A n c sq A' c' ms[k] w' HPP.out hd2 hd1 (ha.below (hBr.trans (hb.mono hBr.size))) HS.out (hr0.below hb) HXN.out.2
        have HC := Lib.hid hcall
        have HMEM := Lib.hid (List.getElem_mem hxk)
        have HTK : Hid (isBl P sq n ms[k] = true → (ms.take (k + 1)).all (isBl P sq n) = true) := Lib.hid (fun h => all_take3 hxk HT.out h)
        obtain ⟨x, hx⟩ : ∃ x, x = ms[k] := ⟨_, rfl⟩
        rw [← hx] at HC HMEM HTK
        clear hl1 hcall hr0 hcc hx HXN hxk
        cases ho : isBl P sq n x
        all_goals
          have HO := Lib.hid ho
          clear ho
          go_wp2
          refine wp_obs 7 [[], [], [], [1, 2], [1, 2, 3], [0, 1, 2, 3, 4], [0, 1, 2, 3, 4, 5]] [VIs (.agg #[.int .i64 P, .slice A n c]), VIs (.slice (some ⟨g, o, none⟩) m d), VIs (.int .i64 (k)), VIs (.pointer (some ⟨g, o + k, none⟩)), VIs (.slice A' (pw n) c'), VIs (.bool (isBl P sq n x)), VIs (.bool (!isBl P sq n x))] (fun w' => w'.cell? ⟨g, o + k, none⟩ = some (.slice A' (pw n) c') ∧ Blk w' w.heap.size 28 #[.int .i64 P, .slice A n c] ∧ Below wr.heap.size wr w') (by kernel_rfl) (by kernel_rfl) (fun _ _ h hb => ⟨(hb.cell (World.block_lt_of_cell? _ _ h.1)).trans h.1, h.2.1.below hb h.2.1.lt, h.2.2.trans (hb.mono h.2.2.size)⟩) (⟨hcx, k2.drew, (Below.refl _ _).drew⟩) (fun xv => ?_)
          refine obs_step (Eq.trans (by simp only [List.getElem?_toArray, List.getElem?_cons_zero]; exact rfl) rfl) rfl (fun w' hS hV K hK => ?_) ?_
          · have q2 := hS.1; obtain ⟨q0, q1⟩ := hS.2.1.two
            go_simp
            exact hK.out _ _ _ rfl rfl rfl (Below.refl _ _)
          simp only [List.setIfInBounds_toArray, List.set_cons_zero, List.set_cons_succ]
          refine obs_step (Eq.trans (by simp only [List.getElem?_toArray, List.getElem?_cons_succ, List.getElem?_cons_zero]; exact rfl) rfl) rfl (fun w' hS hV K hK => ?_) ?_
          · have q2 := hS.1; obtain ⟨q0, q1⟩ := hS.2.1.two
            go_simp
            exact hK.out _ _ _ rfl rfl rfl (Below.refl _ _)
          simp only [List.setIfInBounds_toArray, List.set_cons_zero, List.set_cons_succ]
          refine obs_step (Eq.trans (by simp only [List.getElem?_toArray, List.getElem?_cons_succ, List.getElem?_cons_zero]; exact rfl) rfl) rfl (fun w' hS hV K hK => ?_) ?_
          · have q2 := hS.1; obtain ⟨q0, q1⟩ := hS.2.1.two
            go_simp
            exact hK.out _ _ _ rfl rfl rfl (Below.refl _ _)
          simp only [List.setIfInBounds_toArray, List.set_cons_zero, List.set_cons_succ]
          refine obs_step (Eq.trans (by simp only [List.getElem?_toArray, List.getElem?_cons_succ, List.getElem?_cons_zero]; exact rfl) rfl) rfl (fun w' hS hV K hK => ?_) ?_
          · have e1 : xv 1 = (.slice (some ⟨g, o, none⟩) m d) := hV 1 (by decide)
            have e2 : xv 2 = (.int .i64 (k)) := hV 2 (by decide)
            have q2 := hS.1; obtain ⟨q0, q1⟩ := hS.2.1.two
            go_simp
            exact hK.out _ _ _ rfl rfl rfl (Below.refl _ _)
          simp only [List.setIfInBounds_toArray, List.set_cons_zero, List.set_cons_succ]
          refine obs_step (Eq.trans (by simp only [List.getElem?_toArray, List.getElem?_cons_succ, List.getElem?_cons_zero]; exact rfl) rfl) rfl (fun w' hS hV K hK => ?_) ?_
          · have e1 : xv 1 = (.slice (some ⟨g, o, none⟩) m d) := hV 1 (by decide)
            have e2 : xv 2 = (.int .i64 (k)) := hV 2 (by decide)
            have e3 : xv 3 = (.pointer (some ⟨g, o + k, none⟩)) := hV 3 (by decide)
            have q2 := hS.1; obtain ⟨q0, q1⟩ := hS.2.1.two
            go_simp
            exact hK.out _ _ _ rfl rfl rfl (Below.refl _ _)
          simp only [List.setIfInBounds_toArray, List.set_cons_zero, List.set_cons_succ]
          refine obs_step (Eq.trans (by simp only [List.getElem?_toArray, List.getElem?_cons_succ, List.getElem?_cons_zero]; exact rfl) rfl) rfl (fun w' hS hV K hK => ?_) ?_
          · have e0 : xv 0 = (.agg #[.int .i64 P, .slice A n c]) := hV 0 (by decide)
            have e1 : xv 1 = (.slice (some ⟨g, o, none⟩) m d) := hV 1 (by decide)
            have e2 : xv 2 = (.int .i64 (k)) := hV 2 (by decide)
            have e3 : xv 3 = (.pointer (some ⟨g, o + k, none⟩)) := hV 3 (by decide)
            have e4 : xv 4 = (.slice A' (pw n) c') := hV 4 (by decide)
            have q2 := hS.1; obtain ⟨q0, q1⟩ := hS.2.1.two
            go_simp
            refine (HC.out _ hS.2.2).mono ?_
            rintro e v1 ⟨rfl, hb⟩
            exact hK.out _ _ _ rfl rfl rfl hb
          simp only [List.setIfInBounds_toArray, List.set_cons_zero, List.set_cons_succ]
          refine obs_step (Eq.trans (by simp only [List.getElem?_toArray, List.getElem?_cons_succ, List.getElem?_cons_zero]; exact rfl) rfl) rfl (fun w' hS hV K hK => ?_) ?_
          · have e0 : xv 0 = (.agg #[.int .i64 P, .slice A n c]) := hV 0 (by decide)
            have e1 : xv 1 = (.slice (some ⟨g, o, none⟩) m d) := hV 1 (by decide)
            have e2 : xv 2 = (.int .i64 (k)) := hV 2 (by decide)
            have e3 : xv 3 = (.pointer (some ⟨g, o + k, none⟩)) := hV 3 (by decide)
            have e4 : xv 4 = (.slice A' (pw n) c') := hV 4 (by decide)
            have e5 : xv 5 = (.bool (isBl P sq n x)) := hV 5 (by decide)
            have q2 := hS.1; obtain ⟨q0, q1⟩ := hS.2.1.two
            go_simp
            exact hK.out _ _ _ rfl rfl rfl (Below.refl _ _)
          simp only [List.setIfInBounds_toArray, List.set_cons_zero, List.set_cons_succ]
          refine fun w' hS hV => ?_
          have e0 : xv 0 = (.agg #[.int .i64 P, .slice A n c]) := hV 0 (by decide)
          have e1 : xv 1 = (.slice (some ⟨g, o, none⟩) m d) := hV 1 (by decide)
          have e2 : xv 2 = (.int .i64 (k)) := hV 2 (by decide)
          have e3 : xv 3 = (.pointer (some ⟨g, o + k, none⟩)) := hV 3 (by decide)
          have e4 : xv 4 = (.slice A' (pw n) c') := hV 4 (by decide)
          have e5 : xv 5 = (.bool (isBl P sq n x)) := hV 5 (by decide)
          have e6 : xv 6 = (.bool (!isBl P sq n x)) := hV 6 (by decide)
          simp only [e0, e1, e2, e3, e4, e5, e6]
          clear e0 e1 e2 e3 e4 e5 e6
          refine wpAny_done (by kernel_rfl) ?_ _
          rw [HO.out]
          have HB5 := hBr.trans (hS.2.2.mono hBr.size)
          have K5 := hS.2.1
          go_wp2
        · go_ret
          exact ⟨ret_int (codeL_bad E1.out HMEM.out (by rw [HNL.out]; exact HO.out)).symm, HB5⟩
        · go_roundw
          case rel => exact ⟨k + 1, by omega, by go_num, Lib.hid (HTK.out HO.out), HB5, K5⟩
          case measure => simp [intOf]; omega
      · go_wp2
        go_ret
        refine ⟨ret_int (codeL_good E1.out ?_).symm, hBr⟩
        have := HT.out
        rw [List.take_of_length_le (by rw [HML.out]; omega)] at this
        rw [HNL.out]; exact this
  · obtain ⟨r, hr⟩ : ∃ r, r = codeM P sq ms := ⟨_, rfl⟩
    have E1 := Lib.hid e1
    have HR := Lib.hid hr
    have b0 : (r != 0) = true := code_ne (by rw [hr]; exact e1)
    rw [← hr] at hcm
    clear e1 hr hms
    go_enter Tryz.func58, Tryz.ntmps58
    go_wp2_with fail
    refine hcm.mono ?_
    rintro e w1 ⟨rfl, hb1⟩
    go_wp2
    go_ret
    exact ⟨ret_int (by rw [codeL_ne E1.out, HR.out]), hB0.trans (hb1.mono (by simp))⟩
end Go.Proofs.YtommppijnccomaaGreat
namespace Go.Proofs.YtommppijnccomaaGreat
open Go.RowKit
theorem bind_own {rows : List Value} {i : Nat} {v : Value} (h : rows[i]? = some v) : (rows[i]?).bind Value.ownBlock = v.ownBlock := by rw [h]; rfl
theorem Nest.set {w w' : World} {B : Nat} {rows : List Value} {xss : List (List Int)} (h : Nest w B rows xss) {j : Nat} (hj : j < xss.length) {A : Option Addr} {c : Nat} (hr : rows[j]? = some (.slice A xss[j].length c)) {ys : List Int} (hl : ys.length = xss[j].length)
    (ho : Own w' B 2 A xss[j].length c (ints ys)) (hg : w.grownBy w' (Value.slice A xss[j].length c).ownBlock) : Nest w' B rows (xss.set j ys) := by
  refine ⟨by rw [List.length_set]; exact h.len, fun k hk => ?_, h.apart⟩
  have hk' : k < xss.length := by rw [List.length_set] at hk; exact hk
  rw [List.getElem_set]
  by_cases e : j = k
  · subst e
    rw [if_pos rfl, hl]
    exact ⟨A, c, hr, ho⟩
  · rw [if_neg e]
    obtain ⟨A', c', e', ho'⟩ := h.row k hk'
    refine ⟨A', c', e', ho'.grown hg ?_⟩
    cases hb : (Value.slice A' xss[k].length c').ownBlock with
    | none => exact .inl rfl
    | some g =>
      right
      intro hh
      rcases Nat.lt_or_ge j k with hlt | hge
      · exact h.apart j k g hlt ((bind_own hr).trans hh.symm) ((bind_own e').trans hb)
      · exact h.apart k j g (by omega) ((bind_own e').trans hb) ((bind_own hr).trans hh.symm)
/-- A slice of rows of numbers of the call's own, from block B on. -/
def OwnII (w : World) (B : Nat) (A : Option Addr) (n c : Nat) (xss : List (List Int)) : Prop := ∃ rows, Own w B 22 A n c rows ∧ Nest w B rows xss
theorem MkII.own {w0 w : World} {A : Option Addr} {n c : Nat} {xss : List (List Int)} (h : MkII w0 w A n c xss) : OwnII w w0.heap.size A n c xss := by
  obtain ⟨rows, h1, h2⟩ := h
  exact ⟨rows, h1.2, h2⟩
section
variable {w w' : World} {B B' : Nat} {A : Option Addr} {n c : Nat} {xss : List (List Int)}
theorem OwnII.len (h : OwnII w B A n c xss) : xss.length = n := by
  obtain ⟨rows, h1, h2⟩ := h
  rw [← h2.len]
  exact h1.len
theorem OwnII.rd (h : OwnII w B A n c xss) : RdII w A n xss := by
  obtain ⟨rows, hm, hn⟩ := h
  exact ⟨rows, hm.rd, hn.len, fun k hk => by obtain ⟨A', c', e, ho⟩ := hn.row k hk; exact ⟨A', c', e, ho.rd, ho.cap⟩⟩
theorem OwnII.below (h : OwnII w B A n c xss) (hb : Below w.heap.size w w') : OwnII w' B A n c xss := by
  obtain ⟨rows, hm, hn⟩ := h
  exact ⟨rows, hm.below hb, hn.below hb⟩
/-- A block below the base grows. -/
theorem OwnII.grown (h : OwnII w B A n c xss) {row : Option Nat} (hg : w.grownBy w' row) (hlow : ∀ g, row = some g → g < B) : OwnII w' B A n c xss := by
  obtain ⟨rows, hm, hn⟩ := h
  have key : ∀ {E : TypeId} {A' : Option Addr} {n' c' : Nat} {us : List Value}, Own w B E A' n' c' us → ((Value.slice A' n' c').ownBlock = none ∨ (Value.slice A' n' c').ownBlock ≠ row) := by
    intro E A' n' c' us ho
    cases hb : (Value.slice A' n' c').ownBlock with
    | none => exact .inl rfl
    | some g =>
      right
      intro e
      have h1 := hlow g e.symm
      have h2 := (World.ownsRow.lt ho g hb).1
      omega
  exact ⟨rows, hm.grown hg (key hm), hn.len, fun k hk => by obtain ⟨A', c', e, ho⟩ := hn.row k hk; exact ⟨A', c', e, ho.grown hg (key ho)⟩, hn.apart⟩
end
end Go.Proofs.YtommppijnccomaaGreat
namespace Go.Proofs.YtommppijnccomaaGreat
open Go.RowKit
theorem Blk.newAt3 {w : World} {t : TypeId} {cs : Array Value} {g : Nat} (hg : g = w.heap.size) : Blk (w.alloc (.cells cs t)) g t cs := hg ▸ Blk.new w t cs
theorem noRow3 {w w' : World} {R : List Int × Int} {x : Int} (hR : R = ([], x)) (hB : Below w.heap.size w w') :
    ∃ (A' : Option Addr) (k c' : Nat), Ending.returned (.tuple #[.slice none 0 0, .int .i64 x]) = .returned (.tuple #[.slice A' k c', .int .i64 R.2]) ∧ MkI w w' A' k c' R.1 := by
  subst hR
  exact ⟨none, 0, 0, rfl, Mk.nil hB⟩
theorem aRow3 {w w' : World} {R : List Int × Int} {A : Option Addr} {k c : Nat} {L : List Int} {x : Int} (hR : R = (L, x)) (hM : MkI w w' A k c L) :
    ∃ (A' : Option Addr) (k' c' : Nat), Ending.returned (.tuple #[.slice A k c, .int .i64 x]) = .returned (.tuple #[.slice A' k' c', .int .i64 R.2]) ∧ MkI w w' A' k' c' R.1 := by
  subst hR
  exact ⟨_, _, _, rfl, hM⟩
end Go.Proofs.YtommppijnccomaaGreat
namespace Go.Proofs.YtommppijnccomaaGreat
open Go.RowKit
/-- The outer product of vectors. -/
def wedgesL (P : Int) (sq : List Int) (n : Nat) (L : List (List Int)) : List Int := L.foldl (fun o v => wedgeL P sq o (vecTo n v n)) (bladeL n 0)
theorem wedgesL_snoc (P : Int) (sq : List Int) (n : Nat) (L : List (List Int)) (v : List Int) : wedgesL P sq n (L ++ [v]) = wedgeL P sq (wedgesL P sq n L) (vecTo n v n) := by unfold wedgesL; rw [List.foldl_append]; rfl
theorem wedgesL_len (P : Int) (sq : List Int) (n : Nat) : ∀ (k : Nat) (L : List (List Int)), L.length = k → (wedgesL P sq n L).length = pw n := by
  intro k
  induction k with
  | zero => intro L h; rw [List.eq_nil_of_length_eq_zero h]; exact bladeL_len n 0
  | succ k ih =>
    intro L h
    have hne : L ≠ [] := fun e => by rw [e] at h; simp at h
    rw [← List.dropLast_concat_getLast hne, wedgesL_snoc, wedgeL_len]
    exact ih _ (by rw [List.length_dropLast, h]; rfl)
theorem wedgesL_nums {P : Int} (hp : 2 ≤ P) (sq : List Int) (n : Nat) (L : List (List Int)) : NumsL P (wedgesL P sq n L) := by
  by_cases h : L = []
  · rw [h]; exact bladeL_nums hp n 0
  · rw [← List.dropLast_concat_getLast h, wedgesL_snoc]
    exact wedgeL_nums (by omega) _ _ _
/-- The blade of vectors. -/
def blaL (P : Int) (sq : List Int) (n : Nat) (L : List (List Int)) : List Int := wedgesL P sq n (basisL P L)
theorem blaL_len (P : Int) (sq : List Int) (n : Nat) (L : List (List Int)) : (blaL P sq n L).length = pw n := wedgesL_len P sq n _ _ rfl
set_option maxHeartbeats 3200000 in
set_option maxRecDepth 8000 in
theorem wedgeAll_any (P : Int) (A : Option Addr) (n c : Nat) (sq : List Int) (B : Option Addr) (m d : Nat) (L : List (List Int)) (w : World) (HP : isP P = true) (hn : n ≤ 6) (h0 : 0 < n) (hm : m ≤ 65536) (ha : Rd w A n (ints sq)) (hs : NumsL P sq) (hb : RdII w B m L) (hL : Tab P n L) :
    Calls Tryz.prog 106 #[.agg #[.int .i64 P, .slice A n c], .slice B m d] w fun e w' => ∃ A' c', e = .returned (.slice A' (pw n) c') ∧ MkI w w' A' (pw n) c' (wedgesL P sq n L) := by
  obtain ⟨hp3, hp2⟩ := isP_ge HP
  have hp : 2 ≤ P := by omega
  have HML := Lib.hid hb.len
  have HTL := Lib.hid hL
  have hB0 : Below w.heap.size w (w.alloc (.cells #[.int .i64 P, .slice A n c] 28)) := (Below.refl _ _).alloc (Nat.le_refl _) _
  have k0 : Blk (w.alloc (.cells #[.int .i64 P, .slice A n c] 28)) w.heap.size 28 #[.int .i64 P, .slice A n c] := Blk.new _ _ _
  obtain ⟨q0, q1⟩ := k0.two
  clear hL
  go_enter Tryz.func106, Tryz.ntmps106
  go_wp2_with fail
  refine (one_any P A n c _ (by omega)).mono ?_
  rintro e w1 ⟨G, c1, rfl, hM1⟩
  have k1 := k0.below hM1.b k0.lt
  have hM := hM1.after hB0
  clear hM1 hB0 k0 q0 q1
  go_wp2
  go_loopw [5, 7, 12] (fun out _ i wr => ∃ (k : Nat) (G : Option Addr) (cg : Nat), k ≤ m ∧ i = .int .i64 k ∧ out = .slice G (pw n) cg ∧ MkI w wr G (pw n) cg (wedgesL P sq n (L.take k)) ∧ Blk wr w.heap.size 28 #[.int .i64 P, .slice A n c]) (fun _ _ i _ => m - (intOf i).toNat)
  case atStart => exact ⟨0, _, _, by omega, rfl, rfl, by simpa [wedgesL] using hM, k1⟩
  case round =>
    obtain ⟨k, G, cg, hk, rfl, rfl, hM2, k2⟩ := hrel
    clear hM k1
    obtain ⟨q0, q1⟩ := k2.two
    by_cases hlt : k < m
    · obtain ⟨g, o, rfl, hxk, A1, c1', hcx, hr, hcc⟩ := (hb.below hM2.b).at_ hlt
      have HRN := Lib.hid (HTL.out L[k] (List.getElem_mem hxk))
      have hl1 := HRN.out.1
      rw [hl1] at hcx hr
      have HR := Lib.hid hr
      have HT : Hid (wedgesL P sq n (L.take (k + 1)) = wedgeL P sq (wedgesL P sq n (L.take k)) (vecTo n L[k] n)) := Lib.hid (by rw [List.take_succ_eq_append_getElem hxk, wedgesL_snoc])
      have HN := Lib.hid (wedgesL_nums hp sq n (L.take k))
      have HM2 := Lib.hid hM2
      have HA := Lib.hid (ha.below hM2.b)
      have HSQ := Lib.hid hs
      obtain ⟨v, hv⟩ : ∃ v, v = L[k] := ⟨_, rfl⟩
      rw [← hv] at HRN HR HT
      obtain ⟨O, hO⟩ : ∃ O, O = wedgesL P sq n (L.take k) := ⟨_, rfl⟩
      rw [← hO] at HT HN HM2
      clear hl1 hr hcc hv hO hM2 hxk
      go_wp2
      refine wp_obs 6 [[], [], [], [], [2, 3], [0, 1, 2, 3, 4], [0, 1, 2, 3, 4, 5]] [VIs (.agg #[.int .i64 P, .slice A n c]), VIs (.slice G (pw n) cg), VIs (.agg #[.int .i64 P, .slice A n c]), VIs (.slice A1 n c1'), VSl wr (pw n) (vecTo n v n), VSl wr (pw n) (wedgeL P sq O (vecTo n v n))] (fun w' => Blk w' w.heap.size 28 #[.int .i64 P, .slice A n c] ∧ Below wr.heap.size wr w') (by kernel_rfl) (by kernel_rfl) (fun _ _ h hb => ⟨h.1.below hb h.1.lt, h.2.trans (hb.mono h.2.size)⟩) (⟨k2.drew, (Below.refl _ _).drew⟩) (fun x => ?_)
      refine obs_step (Eq.trans (by simp only [List.getElem?_toArray, List.getElem?_cons_zero]; exact rfl) rfl) rfl (fun w' hS hV K hK => ?_) ?_
      · obtain ⟨q0, q1⟩ := hS.1.two
        go_simp
        exact hK.out _ _ _ rfl rfl rfl (Below.refl _ _)
      simp only [List.setIfInBounds_toArray, List.set_cons_zero, List.set_cons_succ]
      refine obs_step (Eq.trans (by simp only [List.getElem?_toArray, List.getElem?_cons_succ, List.getElem?_cons_zero]; exact rfl) rfl) rfl (fun w' hS hV K hK => ?_) ?_
      · obtain ⟨q0, q1⟩ := hS.1.two
        go_simp
        exact hK.out _ _ _ rfl rfl rfl (Below.refl _ _)
      simp only [List.setIfInBounds_toArray, List.set_cons_zero, List.set_cons_succ]
      refine obs_step (Eq.trans (by simp only [List.getElem?_toArray, List.getElem?_cons_succ, List.getElem?_cons_zero]; exact rfl) rfl) rfl (fun w' hS hV K hK => ?_) ?_
      · obtain ⟨q0, q1⟩ := hS.1.two
        go_simp
        exact hK.out _ _ _ rfl rfl rfl (Below.refl _ _)
      simp only [List.setIfInBounds_toArray, List.set_cons_zero, List.set_cons_succ]
      refine obs_step (Eq.trans (by simp only [List.getElem?_toArray, List.getElem?_cons_succ, List.getElem?_cons_zero]; exact rfl) rfl) rfl (fun w' hS hV K hK => ?_) ?_
      · obtain ⟨q0, q1⟩ := hS.1.two
        go_simp
        exact hK.out _ _ _ rfl rfl rfl (Below.refl _ _)
      simp only [List.setIfInBounds_toArray, List.set_cons_zero, List.set_cons_succ]
      refine obs_step (Eq.trans (by simp only [List.getElem?_toArray, List.getElem?_cons_succ, List.getElem?_cons_zero]; exact rfl) rfl) rfl (fun w' hS hV K hK => ?_) ?_
      · have e2 : x 2 = (.agg #[.int .i64 P, .slice A n c]) := hV 2 (by decide)
        have e3 : x 3 = (.slice A1 n c1') := hV 3 (by decide)
        obtain ⟨q0, q1⟩ := hS.1.two
        go_simp
        refine (vector_any P A n c _ _ v _ (by omega) (HR.out.below hS.2)).mono ?_
        rintro e v1 ⟨A2, c2, rfl, hM⟩
        exact hK.out _ _ _ rfl rfl ⟨_, _, rfl, hM.after hS.2⟩ hM.b
      simp only [List.setIfInBounds_toArray, List.set_cons_zero, List.set_cons_succ]
      refine obs_step (Eq.trans (by simp only [List.getElem?_toArray, List.getElem?_cons_succ, List.getElem?_cons_zero]; exact rfl) rfl) rfl (fun w' hS hV K hK => ?_) ?_
      · have e0 : x 0 = (.agg #[.int .i64 P, .slice A n c]) := hV 0 (by decide)
        have e1 : x 1 = (.slice G (pw n) cg) := hV 1 (by decide)
        have e2 : x 2 = (.agg #[.int .i64 P, .slice A n c]) := hV 2 (by decide)
        have e3 : x 3 = (.slice A1 n c1') := hV 3 (by decide)
        obtain ⟨A4, c4, e4, h4⟩ := hV 4 (by decide)
        obtain ⟨q0, q1⟩ := hS.1.two
        go_simp
        refine (wedge_any P A n c sq _ _ O _ _ (vecTo n v n) _ hp hp2 hn (HA.out.below hS.2) HSQ.out (HM2.out.below hS.2).rd HN.out h4.rd (vecTo_nums (by omega) n _ HRN.out.2 n)).mono ?_
        rintro e v1 ⟨A2, c2, rfl, hM⟩
        exact hK.out _ _ _ rfl rfl ⟨_, _, rfl, hM.after hS.2⟩ hM.b
      simp only [List.setIfInBounds_toArray, List.set_cons_zero, List.set_cons_succ]
      refine fun w' hS hV => ?_
      have e0 : x 0 = (.agg #[.int .i64 P, .slice A n c]) := hV 0 (by decide)
      have e1 : x 1 = (.slice G (pw n) cg) := hV 1 (by decide)
      have e2 : x 2 = (.agg #[.int .i64 P, .slice A n c]) := hV 2 (by decide)
      have e3 : x 3 = (.slice A1 n c1') := hV 3 (by decide)
      obtain ⟨A4, c4, e4, h4⟩ := hV 4 (by decide)
      obtain ⟨A5, c5, e5, h5⟩ := hV 5 (by decide)
      simp only [e0, e1, e2, e3, e4, e5]
      clear e0 e1 e2 e3 e4 e5
      refine any_one (j := 6) (by kernel_rfl) (Eq.trans (by simp only [List.getElem?_toArray, List.getElem?_cons_succ, List.getElem?_cons_zero]; exact rfl) rfl) (fun K hK => ?_)
      go_simp
      refine hK.out _ _ (wpAny_done (by kernel_rfl) ?_ _)
      have k3 := hS.1
      have HMN := Lib.hid (h5.after HM2.out.b)
      clear hS h5 h4
      go_wp2
      go_roundw
      case rel => exact ⟨k + 1, A5, c5, by omega, by go_num, rfl, by rw [HT.out]; exact HMN.out, k3⟩
      case measure => simp [intOf]; omega
    · obtain rfl : k = m := by omega
      rw [List.take_of_length_le (by rw [HML.out]; exact Nat.le_refl _)] at hM2
      go_wp2
      go_ret
      exact ⟨_, _, rfl, hM2⟩
set_option maxHeartbeats 3200000 in
set_option maxRecDepth 8000 in
theorem l05Vectors_any (P : Int) (A : Option Addr) (n c : Nat) (sq : List Int) (B : Option Addr) (m d : Nat) (L : List (List Int)) (w : World) (HP : isP P = true) (hn : n ≤ 6) (h0 : 0 < n) (hm : m ≤ 65536) (ha : Rd w A n (ints sq)) (hs : NumsL P sq) (hb : RdII w B m L) (hL : Tab P n L) :
    Calls Tryz.prog 102 #[.agg #[.int .i64 P, .slice A n c], .slice B m d] w fun e w' => ∃ A' c', e = .returned (.slice A' (pw n) c') ∧ MkI w w' A' (pw n) c' (wedgesL P sq n L) := by
  obtain ⟨hp3, hp2⟩ := isP_ge HP
  have hp : 2 ≤ P := by omega
  have HML := Lib.hid hb.len
  have HTL := Lib.hid hL
  have hB0 : Below w.heap.size w (w.alloc (.cells #[.int .i64 P, .slice A n c] 28)) := (Below.refl _ _).alloc (Nat.le_refl _) _
  have k0 : Blk (w.alloc (.cells #[.int .i64 P, .slice A n c] 28)) w.heap.size 28 #[.int .i64 P, .slice A n c] := Blk.new _ _ _
  obtain ⟨q0, q1⟩ := k0.two
  clear hL
  go_enter Tryz.func102, Tryz.ntmps102
  go_wp2_with fail
  refine (l04One_any P A n c _ (by omega)).mono ?_
  rintro e w1 ⟨G, c1, rfl, hM1⟩
  have k1 := k0.below hM1.b k0.lt
  have hM := hM1.after hB0
  clear hM1 hB0 k0 q0 q1
  go_wp2
  go_loopw [5, 6] (fun out i wr => ∃ (k : Nat) (G : Option Addr) (cg : Nat), k ≤ m ∧ i = .int .i64 k ∧ out = .slice G (pw n) cg ∧ MkI w wr G (pw n) cg (wedgesL P sq n (L.take k)) ∧ Blk wr w.heap.size 28 #[.int .i64 P, .slice A n c]) (fun _ i _ => m - (intOf i).toNat)
  case atStart => exact ⟨0, _, _, by omega, rfl, rfl, by simpa [wedgesL] using hM, k1⟩
  case round =>
    obtain ⟨k, G, cg, hk, rfl, rfl, hM2, k2⟩ := hrel
    clear hM k1
    obtain ⟨q0, q1⟩ := k2.two
    by_cases hlt : k < m
    · obtain ⟨g, o, rfl, hxk, A1, c1', hcx, hr, hcc⟩ := (hb.below hM2.b).at_ hlt
      have HRN := Lib.hid (HTL.out L[k] (List.getElem_mem hxk))
      have hl1 := HRN.out.1
      rw [hl1] at hcx hr
      have HR := Lib.hid hr
      have HT : Hid (wedgesL P sq n (L.take (k + 1)) = wedgeL P sq (wedgesL P sq n (L.take k)) (vecTo n L[k] n)) := Lib.hid (by rw [List.take_succ_eq_append_getElem hxk, wedgesL_snoc])
      have HN := Lib.hid (wedgesL_nums hp sq n (L.take k))
      have HM2 := Lib.hid hM2
      have HA := Lib.hid (ha.below hM2.b)
      have HSQ := Lib.hid hs
      obtain ⟨v, hv⟩ : ∃ v, v = L[k] := ⟨_, rfl⟩
      rw [← hv] at HRN HR HT
      obtain ⟨O, hO⟩ : ∃ O, O = wedgesL P sq n (L.take k) := ⟨_, rfl⟩
      rw [← hO] at HT HN HM2
      clear hl1 hr hcc hv hO hM2 hxk
      go_wp2
      refine wp_obs 9 [[], [], [], [], [], [3, 4], [3, 4, 5], [2, 3, 4, 5, 6], [0, 1, 2, 3, 4, 5, 6, 7], [0, 1, 2, 3, 4, 5, 6, 7, 8]] [VIs (.agg #[.int .i64 P, .slice A n c]), VIs (.slice G (pw n) cg), VIs (.agg #[.int .i64 P, .slice A n c]), VIs (.slice (some ⟨g, o, none⟩) m d), VIs (.int .i64 (k)), VIs (.pointer (some ⟨g, o + k, none⟩)), VIs (.slice A1 n c1'), VSl wr (pw n) (vecTo n v n), VSl wr (pw n) (wedgeL P sq O (vecTo n v n))] (fun w' => w'.cell? ⟨g, o + k, none⟩ = some (.slice A1 n c1') ∧ Blk w' w.heap.size 28 #[.int .i64 P, .slice A n c] ∧ Below wr.heap.size wr w') (by kernel_rfl) (by kernel_rfl) (fun _ _ h hb => ⟨(hb.cell (World.block_lt_of_cell? _ _ h.1)).trans h.1, h.2.1.below hb h.2.1.lt, h.2.2.trans (hb.mono h.2.2.size)⟩) (⟨hcx, k2.drew, (Below.refl _ _).drew⟩) (fun x => ?_)
      refine obs_step (Eq.trans (by simp only [List.getElem?_toArray, List.getElem?_cons_zero]; exact rfl) rfl) rfl (fun w' hS hV K hK => ?_) ?_
      · have q2 := hS.1; obtain ⟨q0, q1⟩ := hS.2.1.two
        go_simp
        exact hK.out _ _ _ rfl rfl rfl (Below.refl _ _)
      simp only [List.setIfInBounds_toArray, List.set_cons_zero, List.set_cons_succ]
      refine obs_step (Eq.trans (by simp only [List.getElem?_toArray, List.getElem?_cons_succ, List.getElem?_cons_zero]; exact rfl) rfl) rfl (fun w' hS hV K hK => ?_) ?_
      · have q2 := hS.1; obtain ⟨q0, q1⟩ := hS.2.1.two
        go_simp
        exact hK.out _ _ _ rfl rfl rfl (Below.refl _ _)
      simp only [List.setIfInBounds_toArray, List.set_cons_zero, List.set_cons_succ]
      refine obs_step (Eq.trans (by simp only [List.getElem?_toArray, List.getElem?_cons_succ, List.getElem?_cons_zero]; exact rfl) rfl) rfl (fun w' hS hV K hK => ?_) ?_
      · have q2 := hS.1; obtain ⟨q0, q1⟩ := hS.2.1.two
        go_simp
        exact hK.out _ _ _ rfl rfl rfl (Below.refl _ _)
      simp only [List.setIfInBounds_toArray, List.set_cons_zero, List.set_cons_succ]
      refine obs_step (Eq.trans (by simp only [List.getElem?_toArray, List.getElem?_cons_succ, List.getElem?_cons_zero]; exact rfl) rfl) rfl (fun w' hS hV K hK => ?_) ?_
      · have q2 := hS.1; obtain ⟨q0, q1⟩ := hS.2.1.two
        go_simp
        exact hK.out _ _ _ rfl rfl rfl (Below.refl _ _)
      simp only [List.setIfInBounds_toArray, List.set_cons_zero, List.set_cons_succ]
      refine obs_step (Eq.trans (by simp only [List.getElem?_toArray, List.getElem?_cons_succ, List.getElem?_cons_zero]; exact rfl) rfl) rfl (fun w' hS hV K hK => ?_) ?_
      · have q2 := hS.1; obtain ⟨q0, q1⟩ := hS.2.1.two
        go_simp
        exact hK.out _ _ _ rfl rfl rfl (Below.refl _ _)
      simp only [List.setIfInBounds_toArray, List.set_cons_zero, List.set_cons_succ]
      refine obs_step (Eq.trans (by simp only [List.getElem?_toArray, List.getElem?_cons_succ, List.getElem?_cons_zero]; exact rfl) rfl) rfl (fun w' hS hV K hK => ?_) ?_
      · have e3 : x 3 = (.slice (some ⟨g, o, none⟩) m d) := hV 3 (by decide)
        have e4 : x 4 = (.int .i64 (k)) := hV 4 (by decide)
        have q2 := hS.1; obtain ⟨q0, q1⟩ := hS.2.1.two
        go_simp
        exact hK.out _ _ _ rfl rfl rfl (Below.refl _ _)
      simp only [List.setIfInBounds_toArray, List.set_cons_zero, List.set_cons_succ]
      refine obs_step (Eq.trans (by simp only [List.getElem?_toArray, List.getElem?_cons_succ, List.getElem?_cons_zero]; exact rfl) rfl) rfl (fun w' hS hV K hK => ?_) ?_
      · have e3 : x 3 = (.slice (some ⟨g, o, none⟩) m d) := hV 3 (by decide)
        have e4 : x 4 = (.int .i64 (k)) := hV 4 (by decide)
        have e5 : x 5 = (.pointer (some ⟨g, o + k, none⟩)) := hV 5 (by decide)
        have q2 := hS.1; obtain ⟨q0, q1⟩ := hS.2.1.two
        go_simp
        exact hK.out _ _ _ rfl rfl rfl (Below.refl _ _)
      simp only [List.setIfInBounds_toArray, List.set_cons_zero, List.set_cons_succ]
      refine obs_step (Eq.trans (by simp only [List.getElem?_toArray, List.getElem?_cons_succ, List.getElem?_cons_zero]; exact rfl) rfl) rfl (fun w' hS hV K hK => ?_) ?_
      · have e2 : x 2 = (.agg #[.int .i64 P, .slice A n c]) := hV 2 (by decide)
        have e3 : x 3 = (.slice (some ⟨g, o, none⟩) m d) := hV 3 (by decide)
        have e4 : x 4 = (.int .i64 (k)) := hV 4 (by decide)
        have e5 : x 5 = (.pointer (some ⟨g, o + k, none⟩)) := hV 5 (by decide)
        have e6 : x 6 = (.slice A1 n c1') := hV 6 (by decide)
        have q2 := hS.1; obtain ⟨q0, q1⟩ := hS.2.1.two
        go_simp
        refine (l04Vector_any P A n c _ _ v _ (by omega) (HR.out.below hS.2.2)).mono ?_
        rintro e v1 ⟨A2, c2, rfl, hM⟩
        exact hK.out _ _ _ rfl rfl ⟨_, _, rfl, hM.after hS.2.2⟩ hM.b
      simp only [List.setIfInBounds_toArray, List.set_cons_zero, List.set_cons_succ]
      refine obs_step (Eq.trans (by simp only [List.getElem?_toArray, List.getElem?_cons_succ, List.getElem?_cons_zero]; exact rfl) rfl) rfl (fun w' hS hV K hK => ?_) ?_
      · have e0 : x 0 = (.agg #[.int .i64 P, .slice A n c]) := hV 0 (by decide)
        have e1 : x 1 = (.slice G (pw n) cg) := hV 1 (by decide)
        have e2 : x 2 = (.agg #[.int .i64 P, .slice A n c]) := hV 2 (by decide)
        have e3 : x 3 = (.slice (some ⟨g, o, none⟩) m d) := hV 3 (by decide)
        have e4 : x 4 = (.int .i64 (k)) := hV 4 (by decide)
        have e5 : x 5 = (.pointer (some ⟨g, o + k, none⟩)) := hV 5 (by decide)
        have e6 : x 6 = (.slice A1 n c1') := hV 6 (by decide)
        obtain ⟨A7, c7, e7, h7⟩ := hV 7 (by decide)
        have q2 := hS.1; obtain ⟨q0, q1⟩ := hS.2.1.two
        go_simp
        refine (l05Wedge_any P A n c sq _ _ O _ _ (vecTo n v n) _ hp hp2 hn (HA.out.below hS.2.2) HSQ.out (HM2.out.below hS.2.2).rd HN.out h7.rd (vecTo_nums (by omega) n _ HRN.out.2 n)).mono ?_
        rintro e v1 ⟨A2, c2, rfl, hM⟩
        exact hK.out _ _ _ rfl rfl ⟨_, _, rfl, hM.after hS.2.2⟩ hM.b
      simp only [List.setIfInBounds_toArray, List.set_cons_zero, List.set_cons_succ]
      refine fun w' hS hV => ?_
      have e0 : x 0 = (.agg #[.int .i64 P, .slice A n c]) := hV 0 (by decide)
      have e1 : x 1 = (.slice G (pw n) cg) := hV 1 (by decide)
      have e2 : x 2 = (.agg #[.int .i64 P, .slice A n c]) := hV 2 (by decide)
      have e3 : x 3 = (.slice (some ⟨g, o, none⟩) m d) := hV 3 (by decide)
      have e4 : x 4 = (.int .i64 (k)) := hV 4 (by decide)
      have e5 : x 5 = (.pointer (some ⟨g, o + k, none⟩)) := hV 5 (by decide)
      have e6 : x 6 = (.slice A1 n c1') := hV 6 (by decide)
      obtain ⟨A7, c7, e7, h7⟩ := hV 7 (by decide)
      obtain ⟨A8, c8, e8, h8⟩ := hV 8 (by decide)
      simp only [e0, e1, e2, e3, e4, e5, e6, e7, e8]
      clear e0 e1 e2 e3 e4 e5 e6 e7 e8
      refine any_one (j := 9) (by kernel_rfl) (Eq.trans (by simp only [List.getElem?_toArray, List.getElem?_cons_succ, List.getElem?_cons_zero]; exact rfl) rfl) (fun K hK => ?_)
      go_simp
      refine hK.out _ _ (wpAny_done (by kernel_rfl) ?_ _)
      have k3 := hS.2.1
      have HMN := Lib.hid (h8.after HM2.out.b)
      clear hS h8 h7
      go_wp2
      go_roundw
      case rel => exact ⟨k + 1, A8, c8, by omega, by go_num, rfl, by rw [HT.out]; exact HMN.out, k3⟩
      case measure => simp [intOf]; omega
    · obtain rfl : k = m := by omega
      rw [List.take_of_length_le (by rw [HML.out]; exact Nat.le_refl _)] at hM2
      go_wp2
      go_ret
      exact ⟨_, _, rfl, hM2⟩
set_option maxHeartbeats 1600000 in
set_option maxRecDepth 8000 in
theorem bladeOf_any (P : Int) (A : Option Addr) (n c : Nat) (sq : List Int) (B : Option Addr) (m d : Nat) (L : List (List Int)) (w : World) (HP : isP P = true) (hn : n ≤ 6) (h0 : 0 < n) (hm : m ≤ 65536) (ha : Rd w A n (ints sq)) (hs : NumsL P sq) (hb : RdII w B m L) (hL : Tab P n L) :
    Calls Tryz.prog 65 #[.agg #[.int .i64 P, .slice A n c], .slice B m d] w fun e w' => ∃ A' c', e = .returned (.slice A' (pw n) c') ∧ MkI w w' A' (pw n) c' (blaL P sq n L) := by
  obtain ⟨hp3, hp2⟩ := isP_ge HP
  have hp : 2 ≤ P := by omega
  have HBL : Hid (blaL P sq n L = wedgesL P sq n (basisL P L)) := Lib.hid rfl
  have HBT := Lib.hid (basisL_tab (p := P) (by omega) L hL)
  have hbl := (basisL_len (p := P) (by omega) L hL).2
  rw [hb.len] at hbl
  have HPP := Lib.hid HP
  have HBA := Lib.hid (fun w' (h : Below w.heap.size w w') => basis_any P B m d L n w' HP hm (by omega) (hb.below h) hL)
  have hB0 : Below w.heap.size w (w.alloc (.cells #[.int .i64 P, .slice A n c] 28)) := (Below.refl _ _).alloc (Nat.le_refl _) _
  have k0 : Blk (w.alloc (.cells #[.int .i64 P, .slice A n c] 28)) w.heap.size 28 #[.int .i64 P, .slice A n c] := Blk.new _ _ _
  clear hL HP
  go_enter Tryz.func65, Tryz.ntmps65
  go_wp2
  refine wp_obs 7 [[], [], [1], [], [1, 2, 3], [0, 1, 2, 3, 4], [0, 1, 2, 3, 4, 5]] [VIs (.agg #[.int .i64 P, .slice A n c]), VIs (.agg #[.int .i64 P, .slice A n c]), VIs (.int .i64 (P)), VIs (.slice B m d), VMat w (basisL P L).length (basisL P L), VSl w (pw n) (blaL P sq n L), VSl w (pw n) (blaL P sq n L)] (fun w' => Blk w' w.heap.size 28 #[.int .i64 P, .slice A n c] ∧ Below w.heap.size w w') (by kernel_rfl) (by kernel_rfl) (fun _ _ h hb => ⟨h.1.below hb h.1.lt, h.2.trans (hb.mono h.2.size)⟩) (⟨k0.drew, hB0.drew⟩) (fun x => ?_)
  refine obs_step (Eq.trans (by simp only [List.getElem?_toArray, List.getElem?_cons_zero]; exact rfl) rfl) rfl (fun w' hS hV K hK => ?_) ?_
  · obtain ⟨q0, q1⟩ := hS.1.two
    go_simp
    exact hK.out _ _ _ rfl rfl rfl (Below.refl _ _)
  simp only [List.setIfInBounds_toArray, List.set_cons_zero, List.set_cons_succ]
  refine obs_step (Eq.trans (by simp only [List.getElem?_toArray, List.getElem?_cons_succ, List.getElem?_cons_zero]; exact rfl) rfl) rfl (fun w' hS hV K hK => ?_) ?_
  · obtain ⟨q0, q1⟩ := hS.1.two
    go_simp
    exact hK.out _ _ _ rfl rfl rfl (Below.refl _ _)
  simp only [List.setIfInBounds_toArray, List.set_cons_zero, List.set_cons_succ]
  refine obs_step (Eq.trans (by simp only [List.getElem?_toArray, List.getElem?_cons_succ, List.getElem?_cons_zero]; exact rfl) rfl) rfl (fun w' hS hV K hK => ?_) ?_
  · have e1 : x 1 = (.agg #[.int .i64 P, .slice A n c]) := hV 1 (by decide)
    obtain ⟨q0, q1⟩ := hS.1.two
    go_simp
    refine (field_any _ _ _ _ _).mono ?_
    rintro e v1 ⟨rfl, hb⟩
    exact hK.out _ _ _ rfl rfl rfl hb
  simp only [List.setIfInBounds_toArray, List.set_cons_zero, List.set_cons_succ]
  refine obs_step (Eq.trans (by simp only [List.getElem?_toArray, List.getElem?_cons_succ, List.getElem?_cons_zero]; exact rfl) rfl) rfl (fun w' hS hV K hK => ?_) ?_
  · obtain ⟨q0, q1⟩ := hS.1.two
    go_simp
    exact hK.out _ _ _ rfl rfl rfl (Below.refl _ _)
  simp only [List.setIfInBounds_toArray, List.set_cons_zero, List.set_cons_succ]
  refine obs_step (Eq.trans (by simp only [List.getElem?_toArray, List.getElem?_cons_succ, List.getElem?_cons_zero]; exact rfl) rfl) rfl (fun w' hS hV K hK => ?_) ?_
  · have e1 : x 1 = (.agg #[.int .i64 P, .slice A n c]) := hV 1 (by decide)
    have e2 : x 2 = (.int .i64 (P)) := hV 2 (by decide)
    have e3 : x 3 = (.slice B m d) := hV 3 (by decide)
    obtain ⟨q0, q1⟩ := hS.1.two
    go_simp
    refine (HBA.out _ hS.2).mono ?_
    rintro e v1 ⟨A2, c2, rfl, hM⟩
    exact hK.out _ _ _ rfl rfl ⟨_, _, rfl, hM.after hS.2⟩ hM.b
  simp only [List.setIfInBounds_toArray, List.set_cons_zero, List.set_cons_succ]
  refine obs_step (Eq.trans (by simp only [List.getElem?_toArray, List.getElem?_cons_succ, List.getElem?_cons_zero]; exact rfl) rfl) rfl (fun w' hS hV K hK => ?_) ?_
  · have e0 : x 0 = (.agg #[.int .i64 P, .slice A n c]) := hV 0 (by decide)
    have e1 : x 1 = (.agg #[.int .i64 P, .slice A n c]) := hV 1 (by decide)
    have e2 : x 2 = (.int .i64 (P)) := hV 2 (by decide)
    have e3 : x 3 = (.slice B m d) := hV 3 (by decide)
    obtain ⟨A4, c4, e4, h4⟩ := hV 4 (by decide)
    obtain ⟨q0, q1⟩ := hS.1.two
    go_simp
    refine (wedgeAll_any P A n c sq _ _ _ (basisL P L) _ HPP.out hn h0 (by omega) (ha.below hS.2) hs h4.rd HBT.out).mono ?_
    rw [← HBL.out]
    rintro e v1 ⟨A2, c2, rfl, hM⟩
    exact hK.out _ _ _ rfl rfl ⟨_, _, rfl, hM.after hS.2⟩ hM.b
  simp only [List.setIfInBounds_toArray, List.set_cons_zero, List.set_cons_succ]
  refine obs_step (Eq.trans (by simp only [List.getElem?_toArray, List.getElem?_cons_succ, List.getElem?_cons_zero]; exact rfl) rfl) rfl (fun w' hS hV K hK => ?_) ?_
  · have e0 : x 0 = (.agg #[.int .i64 P, .slice A n c]) := hV 0 (by decide)
    have e1 : x 1 = (.agg #[.int .i64 P, .slice A n c]) := hV 1 (by decide)
    have e2 : x 2 = (.int .i64 (P)) := hV 2 (by decide)
    have e3 : x 3 = (.slice B m d) := hV 3 (by decide)
    obtain ⟨A4, c4, e4, h4⟩ := hV 4 (by decide)
    obtain ⟨A5, c5, e5, h5⟩ := hV 5 (by decide)
    obtain ⟨q0, q1⟩ := hS.1.two
    go_simp
    exact hK.out _ _ _ rfl rfl ⟨_, _, rfl, h5⟩ (Below.refl _ _)
  simp only [List.setIfInBounds_toArray, List.set_cons_zero, List.set_cons_succ]
  refine fun w' hS hV => ?_
  have e0 : x 0 = (.agg #[.int .i64 P, .slice A n c]) := hV 0 (by decide)
  have e1 : x 1 = (.agg #[.int .i64 P, .slice A n c]) := hV 1 (by decide)
  have e2 : x 2 = (.int .i64 (P)) := hV 2 (by decide)
  have e3 : x 3 = (.slice B m d) := hV 3 (by decide)
  obtain ⟨A4, c4, e4, h4⟩ := hV 4 (by decide)
  obtain ⟨A5, c5, e5, h5⟩ := hV 5 (by decide)
  obtain ⟨A6, c6, e6, h6⟩ := hV 6 (by decide)
  simp only [e0, e1, e2, e3, e4, e5, e6]
  clear e0 e1 e2 e3 e4 e5 e6
  refine wpAny_done (by kernel_rfl) ?_ _
  go_wp2
  go_ret
  exact ⟨_, _, rfl, h6⟩
set_option maxHeartbeats 1600000 in
set_option maxRecDepth 8000 in
theorem l06Blade_any (P : Int) (A : Option Addr) (n c : Nat) (sq : List Int) (B : Option Addr) (m d : Nat) (L : List (List Int)) (w : World) (HP : isP P = true) (hn : n ≤ 6) (h0 : 0 < n) (hm : m ≤ 65536) (ha : Rd w A n (ints sq)) (hs : NumsL P sq) (hb : RdII w B m L) (hL : Tab P n L) :
    Calls Tryz.prog 62 #[.agg #[.int .i64 P, .slice A n c], .slice B m d] w fun e w' => ∃ A' c', e = .returned (.slice A' (pw n) c') ∧ MkI w w' A' (pw n) c' (blaL P sq n L) := by
  obtain ⟨hp3, hp2⟩ := isP_ge HP
  have hp : 2 ≤ P := by omega
  have HBL : Hid (blaL P sq n L = wedgesL P sq n (basisL P L)) := Lib.hid rfl
  have HBT := Lib.hid (basisL_tab (p := P) (by omega) L hL)
  have hbl := (basisL_len (p := P) (by omega) L hL).2
  rw [hb.len] at hbl
  have HPP := Lib.hid HP
  have HBA := Lib.hid (fun w' (h : Below w.heap.size w w') => l02Basis_any P B m d L n w' HP hm (by omega) (hb.below h) hL)
  have hB0 : Below w.heap.size w (w.alloc (.cells #[.int .i64 P, .slice A n c] 28)) := (Below.refl _ _).alloc (Nat.le_refl _) _
  have k0 : Blk (w.alloc (.cells #[.int .i64 P, .slice A n c] 28)) w.heap.size 28 #[.int .i64 P, .slice A n c] := Blk.new _ _ _
  clear hL HP
  go_enter Tryz.func62, Tryz.ntmps62
  go_wp2
  refine wp_obs 7 [[], [], [1], [], [1, 2, 3], [0, 1, 2, 3, 4], [0, 1, 2, 3, 4, 5]] [VIs (.agg #[.int .i64 P, .slice A n c]), VIs (.pointer (some ⟨w.heap.size, 0, none⟩)), VIs (.int .i64 (P)), VIs (.slice B m d), VMat w (basisL P L).length (basisL P L), VSl w (pw n) (blaL P sq n L), VSl w (pw n) (blaL P sq n L)] (fun w' => Blk w' w.heap.size 28 #[.int .i64 P, .slice A n c] ∧ Below w.heap.size w w') (by kernel_rfl) (by kernel_rfl) (fun _ _ h hb => ⟨h.1.below hb h.1.lt, h.2.trans (hb.mono h.2.size)⟩) (⟨k0.drew, hB0.drew⟩) (fun x => ?_)
  refine obs_step (Eq.trans (by simp only [List.getElem?_toArray, List.getElem?_cons_zero]; exact rfl) rfl) rfl (fun w' hS hV K hK => ?_) ?_
  · obtain ⟨q0, q1⟩ := hS.1.two
    go_simp
    exact hK.out _ _ _ rfl rfl rfl (Below.refl _ _)
  simp only [List.setIfInBounds_toArray, List.set_cons_zero, List.set_cons_succ]
  refine obs_step (Eq.trans (by simp only [List.getElem?_toArray, List.getElem?_cons_succ, List.getElem?_cons_zero]; exact rfl) rfl) rfl (fun w' hS hV K hK => ?_) ?_
  · obtain ⟨q0, q1⟩ := hS.1.two
    go_simp
    exact hK.out _ _ _ rfl rfl rfl (Below.refl _ _)
  simp only [List.setIfInBounds_toArray, List.set_cons_zero, List.set_cons_succ]
  refine obs_step (Eq.trans (by simp only [List.getElem?_toArray, List.getElem?_cons_succ, List.getElem?_cons_zero]; exact rfl) rfl) rfl (fun w' hS hV K hK => ?_) ?_
  · have e1 : x 1 = (.pointer (some ⟨w.heap.size, 0, none⟩)) := hV 1 (by decide)
    obtain ⟨q0, q1⟩ := hS.1.two
    go_simp
    exact hK.out _ _ _ rfl rfl rfl (Below.refl _ _)
  simp only [List.setIfInBounds_toArray, List.set_cons_zero, List.set_cons_succ]
  refine obs_step (Eq.trans (by simp only [List.getElem?_toArray, List.getElem?_cons_succ, List.getElem?_cons_zero]; exact rfl) rfl) rfl (fun w' hS hV K hK => ?_) ?_
  · obtain ⟨q0, q1⟩ := hS.1.two
    go_simp
    exact hK.out _ _ _ rfl rfl rfl (Below.refl _ _)
  simp only [List.setIfInBounds_toArray, List.set_cons_zero, List.set_cons_succ]
  refine obs_step (Eq.trans (by simp only [List.getElem?_toArray, List.getElem?_cons_succ, List.getElem?_cons_zero]; exact rfl) rfl) rfl (fun w' hS hV K hK => ?_) ?_
  · have e1 : x 1 = (.pointer (some ⟨w.heap.size, 0, none⟩)) := hV 1 (by decide)
    have e2 : x 2 = (.int .i64 (P)) := hV 2 (by decide)
    have e3 : x 3 = (.slice B m d) := hV 3 (by decide)
    obtain ⟨q0, q1⟩ := hS.1.two
    go_simp
    refine (HBA.out _ hS.2).mono ?_
    rintro e v1 ⟨A2, c2, rfl, hM⟩
    exact hK.out _ _ _ rfl rfl ⟨_, _, rfl, hM.after hS.2⟩ hM.b
  simp only [List.setIfInBounds_toArray, List.set_cons_zero, List.set_cons_succ]
  refine obs_step (Eq.trans (by simp only [List.getElem?_toArray, List.getElem?_cons_succ, List.getElem?_cons_zero]; exact rfl) rfl) rfl (fun w' hS hV K hK => ?_) ?_
  · have e0 : x 0 = (.agg #[.int .i64 P, .slice A n c]) := hV 0 (by decide)
    have e1 : x 1 = (.pointer (some ⟨w.heap.size, 0, none⟩)) := hV 1 (by decide)
    have e2 : x 2 = (.int .i64 (P)) := hV 2 (by decide)
    have e3 : x 3 = (.slice B m d) := hV 3 (by decide)
    obtain ⟨A4, c4, e4, h4⟩ := hV 4 (by decide)
    obtain ⟨q0, q1⟩ := hS.1.two
    go_simp
    refine (l05Vectors_any P A n c sq _ _ _ (basisL P L) _ HPP.out hn h0 (by omega) (ha.below hS.2) hs h4.rd HBT.out).mono ?_
    rw [← HBL.out]
    rintro e v1 ⟨A2, c2, rfl, hM⟩
    exact hK.out _ _ _ rfl rfl ⟨_, _, rfl, hM.after hS.2⟩ hM.b
  simp only [List.setIfInBounds_toArray, List.set_cons_zero, List.set_cons_succ]
  refine obs_step (Eq.trans (by simp only [List.getElem?_toArray, List.getElem?_cons_succ, List.getElem?_cons_zero]; exact rfl) rfl) rfl (fun w' hS hV K hK => ?_) ?_
  · have e0 : x 0 = (.agg #[.int .i64 P, .slice A n c]) := hV 0 (by decide)
    have e1 : x 1 = (.pointer (some ⟨w.heap.size, 0, none⟩)) := hV 1 (by decide)
    have e2 : x 2 = (.int .i64 (P)) := hV 2 (by decide)
    have e3 : x 3 = (.slice B m d) := hV 3 (by decide)
    obtain ⟨A4, c4, e4, h4⟩ := hV 4 (by decide)
    obtain ⟨A5, c5, e5, h5⟩ := hV 5 (by decide)
    obtain ⟨q0, q1⟩ := hS.1.two
    go_simp
    exact hK.out _ _ _ rfl rfl ⟨_, _, rfl, h5⟩ (Below.refl _ _)
  simp only [List.setIfInBounds_toArray, List.set_cons_zero, List.set_cons_succ]
  refine fun w' hS hV => ?_
  have e0 : x 0 = (.agg #[.int .i64 P, .slice A n c]) := hV 0 (by decide)
  have e1 : x 1 = (.pointer (some ⟨w.heap.size, 0, none⟩)) := hV 1 (by decide)
  have e2 : x 2 = (.int .i64 (P)) := hV 2 (by decide)
  have e3 : x 3 = (.slice B m d) := hV 3 (by decide)
  obtain ⟨A4, c4, e4, h4⟩ := hV 4 (by decide)
  obtain ⟨A5, c5, e5, h5⟩ := hV 5 (by decide)
  obtain ⟨A6, c6, e6, h6⟩ := hV 6 (by decide)
  simp only [e0, e1, e2, e3, e4, e5, e6]
  clear e0 e1 e2 e3 e4 e5 e6
  refine wpAny_done (by kernel_rfl) ?_ _
  go_wp2
  go_ret
  exact ⟨_, _, rfl, h6⟩
end Go.Proofs.YtommppijnccomaaGreat
namespace Go.Proofs.YtommppijnccomaaGreat
open Go.RowKit
theorem Nest.join {w : World} {B : Nat} {rows rows' : List Value} {xss yss : List (List Int)} (h : Nest w B rows xss) (h' : Nest w B rows' yss)
    (hap : ∀ i j g : Nat, (rows[i]?).bind Value.ownBlock = some g → (rows'[j]?).bind Value.ownBlock ≠ some g) : Nest w B (rows ++ rows') (xss ++ yss) := by
  have hl := h.len
  have hl' := h'.len
  refine ⟨by simp [hl, hl'], fun k hk => ?_, fun i j g hij hi => ?_⟩
  · by_cases hlt : k < xss.length
    · obtain ⟨A, c, e, ho⟩ := h.row k hlt
      rw [List.getElem_append_left hlt]
      exact ⟨A, c, by rw [List.getElem?_append_left (by omega)]; exact e, ho⟩
    · have hk2 : k - xss.length < yss.length := by rw [List.length_append] at hk; omega
      obtain ⟨A, c, e, ho⟩ := h'.row (k - xss.length) hk2
      rw [List.getElem_append_right (by omega)]
      exact ⟨A, c, by rw [List.getElem?_append_right (by omega), hl]; exact e, ho⟩
  · by_cases hj : j < rows.length
    · rw [List.getElem?_append_left (by omega)] at hi
      rw [List.getElem?_append_left hj]
      exact h.apart i j g hij hi
    · rw [List.getElem?_append_right (by omega)]
      by_cases hil : i < rows.length
      · rw [List.getElem?_append_left hil] at hi
        exact hap i _ g hi
      · rw [List.getElem?_append_right (by omega)] at hi
        exact h'.apart _ _ g (by omega) hi
/-- Two lists of lists, no rows of which lie in one block; the first one is the call's own. -/
def MkII2 (w0 w : World) (A : Option Addr) (n c : Nat) (xss : List (List Int)) (B : Option Addr) (m : Nat) (yss : List (List Int)) : Prop :=
  ∃ rows rows', Mk w0 w 22 A n c rows ∧ Rd w B m rows' ∧ rows.length = xss.length ∧ Nest w w0.heap.size (rows ++ rows') (xss ++ yss)
theorem MkII2.of_first {w0 w1 w2 : World} {A B : Option Addr} {n c m d : Nat} {xss yss : List (List Int)} (h : MkII w0 w1 A n c xss) (h' : MkII w1 w2 B m d yss) : MkII2 w0 w2 A n c xss B m yss := by
  obtain ⟨rows, hm, hn⟩ := h
  obtain ⟨rows', hm', hn'⟩ := h'
  have hs := hm.1.size
  refine ⟨rows, rows', hm.below hm'.1, hm'.rd, hn.len, Nest.join (hn.below hm'.1) (hn'.base hs) fun i j g hi hj => ?_⟩
  have := (hn.block i g hi).2
  have := (hn'.block j g hj).1
  omega
theorem MkII2.below {w0 w w' : World} {A B : Option Addr} {n c m : Nat} {xss yss : List (List Int)} (h : MkII2 w0 w A n c xss B m yss) (hb : Below w.heap.size w w') : MkII2 w0 w' A n c xss B m yss := by
  obtain ⟨rows, rows', h1, h2, h3, h4⟩ := h
  exact ⟨rows, rows', h1.below hb, h2.below hb, h3, h4.below hb⟩
theorem MkII2.ne_blk {w0 w : World} {A B : Option Addr} {n c m g : Nat} {xss yss : List (List Int)} {t : TypeId} {cs : Array Value} (h : MkII2 w0 w A n c xss B m yss) (hb : Blk w g t cs) (hE : 22 ≠ t) : some g ≠ (Value.slice A n c).ownBlock := by
  obtain ⟨rows, _, hm, _⟩ := h
  exact hm.2.ne_blk hb hE
theorem MkII2.grown_below {w0 w w' : World} {A B : Option Addr} {n c m : Nat} {xss yss : List (List Int)} {X : Nat} {a : World} (h : MkII2 w0 w A n c xss B m yss) (hg : w.grownBy w' (Value.slice A n c).ownBlock) (hb : Below X a w) (hX : X ≤ w0.heap.size) : Below X a w' := by
  obtain ⟨rows, _, hm, _⟩ := h
  exact (hm.2.base hX).grown_below hg hb (Nat.le_trans hX hm.1.size)
/-- The second list is appended to the first one. -/
theorem wp_appRows {o : Oper} {a : Act} {K : Act → World → Prop} {Q : Exit → Act → World → Prop} (w0 wr : World)
    (s x : Operand) (ho : o.op = .call { callee := .builtin .append, args := #[s, x], argTypes := #[37, 37] })
    (A : Option Addr) (n c : Nat) (xss : List (List Int)) (B : Option Addr) (m d : Nat) (yss : List (List Int)) (hM : MkII2 w0 wr A n c xss B m yss) (hn : n + m ≤ 1099511627775)
    (hs : a.eval s = .slice A n c) (hx : a.eval x = .slice B m d)
    (h : ∀ A' c' w', MkII w0 w' A' (n + m) c' (xss ++ yss) → wr.grownBy w' (Value.slice A n c).ownBlock → K (a.put o.dst (.slice A' (n + m) c')) w') : o.wp Tryz.prog a wr K Q := by
  obtain ⟨rows, rows', hm, hr, hrl, hnest⟩ := hM
  obtain ⟨i, hi, h1, h2, h3⟩ := info_parts info_s
  obtain ⟨b1, b2⟩ := bound_of (show n + m - 1 ≤ 1099511627776 by omega)
  have hr1 : rows'.length = m := hr.1
  have hone : ∀ u ∈ rows', u.oneCell' = true := fun u hu => by
    obtain ⟨k, hk, rfl⟩ := List.getElem_of_mem hu
    have hkl : rows.length + k < (xss ++ yss).length := by rw [← hnest.len, List.length_append]; omega
    obtain ⟨A2, c2, e, _⟩ := hnest.row (rows.length + k) hkl
    rw [List.getElem?_append_right (by omega), Nat.add_sub_cancel_left, List.getElem?_eq_getElem hk] at e
    rw [Option.some.inj e]; rfl
  have key : ∃ A' c' w', (Builtin.append_ #[37, 37] o.type #[.slice A n c, .slice B m d]).run Tryz.prog wr = .ok (.slice A' (n + m) c') w' ∧ Own w' w0.heap.size 22 A' (n + m) c' (rows ++ rows') ∧ wr.grownBy w' (Value.slice A n c).ownBlock := by
    by_cases hm0 : m = 0
    · subst hm0
      obtain rfl : rows' = [] := List.eq_nil_of_length_eq_zero hr1
      have hsrc : Src Tryz.prog i.size 37 (.slice B 0 d) 0 [] wr := by
        cases B with
        | none => exact Src.ofNil wr Tryz.underlying37 d
        | some ad => exact Src.ofSlice wr Tryz.underlying37 ad 0 d [] (by simp) (fun j u hu => by simp at hu) (fun u hu => by simp at hu)
      refine ⟨A, c, wr, run_append_nothing wr _ _ _ _ i Tryz.underlying37 hi A n c hm.2.cap _ hsrc, ?_, World.grownBy.refl _ _⟩
      rw [List.append_nil]
      exact hm.2
    · obtain ⟨g, o', rfl, hc⟩ := hr.2 (by omega)
      obtain ⟨g', cap, w', hrun, hown, hg, _, _⟩ := run_append_lies (P := Tryz.prog) (w := wr) 37 o.type w0.heap.size 22 i (.slice none 0 0) 1 24 Tryz.underlying37 hi h1 h2 h3 rfl (by omega) (.slice A n c) n rows hm.2 ⟨g, o', none⟩ m d rows' (by omega)
        (fun j u hu => by rw [Addr.add_lit]; exact hc j u hu) hone (by omega) (by simp only [maxLen]; omega) (by omega) hm.1.size _ rfl
      exact ⟨_, _, _, hrun, hown, hg⟩
  obtain ⟨A', c', w', hrun, hown, hg⟩ := key
  unfold Oper.wp execOp
  simp only [ho, resolve, invoke, builtin, Sem.run_bind, Sem.run_pure, Result.andThen_ok, List.map_toArray, List.map_cons, List.map_nil, hs, hx, hrun]
  exact h A' c' w' ⟨rows ++ rows', ⟨hm.1.grown hg hm.1.size (fun k hk => (hm.2.lt k hk).1), hown⟩, hnest.grown hm.2 (by decide) hg⟩ hg
end Go.Proofs.YtommppijnccomaaGreat

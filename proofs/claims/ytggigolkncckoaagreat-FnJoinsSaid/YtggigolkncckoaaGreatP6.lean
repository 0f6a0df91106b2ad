/-
  LawFnJoins: part 6 of the texts that the proof needs. No condition.
-/
import Derived.Test.YtggigolkncckoaaGreatP5
namespace Go.Proofs.YtggigolkncckoaaGreat
open Go.RowKit
theorem lengthS_any (A : Option Addr) (n c : Nat) (w : World) :
    Calls Tryz.prog 329 #[.slice A n c] w fun e w' => e = .returned (.int .i64 n) ∧ w = w' := by
  go_enter Tryz.func329, Tryz.ntmps329
  go_wp2
  go_ret
  exact ⟨rfl, rfl⟩
theorem isMu_spec3 {P : Int} {sq ys : List Int} (h : isMu P sq ys = true) : ys.length = pw sq.length ∧ NumsL P ys := by
  unfold isMu at h
  simp only [Bool.and_eq_true, beq_iff_eq] at h
  exact ⟨by have := h.1; omega, nums_numsL h.2⟩
theorem isVe_spec3 {P : Int} {sq ys : List Int} (h : isVe P sq ys = true) : ys.length = sq.length ∧ NumsL P ys := by
  unfold isVe at h
  simp only [Bool.and_eq_true, beq_iff_eq] at h
  exact ⟨by have := h.1; omega, nums_numsL h.2⟩
theorem codeM_spec3 {P : Int} {sq : List Int} {ms : List (List Int)} (h : codeM P sq ms = 0) : isP P = true ∧ 2 ≤ P ∧ P ≤ 13 ∧ 1 ≤ sq.length ∧ sq.length ≤ 6 ∧ NumsL P sq ∧ ∀ ys ∈ ms, ys.length = pw sq.length ∧ NumsL P ys := by
  obtain ⟨h1, h2⟩ := codeM_sp h
  obtain ⟨hp, hd1, hd2, hnum⟩ := isSp_dim h1
  have := isP_ge hp
  exact ⟨hp, by omega, by omega, hd1, hd2, nums_numsL hnum, fun ys hy => isMu_spec3 (h2 ys hy)⟩
/-- Is it a blade of vectors? -/
def isBl (P : Int) (sq : List Int) (n : Nat) (xs : List Int) : Bool := decide ((gradesL xs).length = 1) && decide ((((subL P sq n xs).length : Nat) : Int) = (gradesL xs).getD 0 0)
/-- The code of a space and blades. -/
def codeL (P : Int) (sq : List Int) (ms : List (List Int)) : Int := if codeM P sq ms = 0 then (if ms.all (isBl P sq sq.length) then 0 else 5) else codeM P sq ms
theorem codeL_zero {P : Int} {sq : List Int} {ms : List (List Int)} (h : codeL P sq ms = 0) : codeM P sq ms = 0 ∧ ms.all (isBl P sq sq.length) = true := by
  unfold codeL at h
  by_cases h1 : codeM P sq ms = 0
  · rw [if_pos h1] at h
    by_cases h2 : ms.all (isBl P sq sq.length) = true
    · exact ⟨h1, h2⟩
    · rw [if_neg h2] at h; exact absurd h (by omega)
  · rw [if_neg h1] at h; exact absurd h h1
theorem codeL_bad {P : Int} {sq : List Int} {ms : List (List Int)} (h : codeM P sq ms = 0) {xs : List Int} (hm : xs ∈ ms) (hx : isBl P sq sq.length xs = false) : codeL P sq ms = 5 := by
  unfold codeL
  rw [if_pos h, if_neg]
  intro hall
  have := List.all_eq_true.1 hall xs hm
  rw [hx] at this
  cases this
theorem codeL_good {P : Int} {sq : List Int} {ms : List (List Int)} (h : codeM P sq ms = 0) (hall : ms.all (isBl P sq sq.length) = true) : codeL P sq ms = 0 := by
  unfold codeL
  rw [if_pos h, if_pos hall]
theorem codeL_ne {P : Int} {sq : List Int} {ms : List (List Int)} (h : ¬ codeM P sq ms = 0) : codeL P sq ms = codeM P sq ms := by
  unfold codeL
  rw [if_neg h]
theorem all_take3 {α : Type} {f : α → Bool} {xs : List α} {k : Nat} (hk : k < xs.length) (h : (xs.take k).all f = true) (hf : f xs[k] = true) : (xs.take (k + 1)).all f = true := by
  rw [List.take_succ_eq_append_getElem hk, List.all_append, h]
  simp [hf]
/-- A multivector, a vector: the code of a blade and a vector. -/
def codeLv (P : Int) (sq xs v : List Int) : Int := if codeM P sq [xs] = 0 then (if isVe P sq v then (if isBl P sq sq.length xs then 0 else 5) else 2) else codeM P sq [xs]
set_option maxHeartbeats 3200000 in
set_option maxRecDepth 8000 in
theorem isBlade_any (P : Int) (A : Option Addr) (n c : Nat) (sq : List Int) (X : Option Addr) (cx : Nat) (xs : List Int) (w : World) (HP : isP P = true) (hn : n ≤ 6) (h0 : 0 < n) (ha : Rd w A n (ints sq)) (hs : NumsL P sq) (hx : Rd w X (pw n) (ints xs)) (hxs : NumsL P xs) :
    Calls Tryz.prog 234 #[.agg #[.int .i64 P, .slice A n c], .slice X (pw n) cx] w fun e w' => e = .returned (.bool (isBl P sq n xs)) ∧ Below w.heap.size w w' := by
  obtain ⟨hp3, hp2⟩ := isP_ge HP
  have hp : 2 ≤ P := by omega
  have hpn := pw_pos n
  have hpw : pw n ≤ 64 := pw_le hn
  have hB0 : Below w.heap.size w (w.alloc (.cells #[.int .i64 P, .slice A n c] 26)) := (Below.refl _ _).alloc (Nat.le_refl _) _
  have k0 : Blk (w.alloc (.cells #[.int .i64 P, .slice A n c] 26)) w.heap.size 26 #[.int .i64 P, .slice A n c] := Blk.new _ _ _
  have hgl := gradesL_len xs
  have hsl := subL_len HP sq n xs
  have hsub := fun w' (hb : Below w.heap.size w w') => subspace_any P A n c sq X cx xs w' HP hn h0 (ha.below hb) hs (hx.below hb) hxs
  have HSUB := Lib.hid hsub
  clear hsub
  obtain ⟨q0, q1⟩ := k0.two
  go_enter Tryz.func234, Tryz.ntmps234
  go_wp2_with fail
  refine (gradesOf_any X (pw n) cx xs _ hpw (hx.below hB0)).mono ?_
  rintro e w1 ⟨G, cg, rfl, hG⟩
  have k1 := k0.below hG.b k0.lt
  have hB1 := hB0.trans (hG.b.mono hB0.size)
  have HGL : Hid ((isBl P sq n xs) = (decide ((gradesL xs).length = 1) && decide ((((subL P sq n xs).length : Nat) : Int) = (gradesL xs).getD 0 0))) := Lib.hid rfl
  have hgr := hG.rd
  obtain ⟨L, hL⟩ : ∃ L, L = gradesL xs := ⟨_, rfl⟩
  rw [← hL] at hgr hgl HGL ⊢
  obtain ⟨q, hq⟩ : ∃ q, q = (subL P sq n xs).length := ⟨_, rfl⟩
  have HQ := Lib.hid hq
  rw [← hq] at HGL hsl
  obtain ⟨m, hm⟩ : ∃ m, m = L.length := ⟨_, rfl⟩
  rw [← hm] at hgr hgl HGL ⊢
  clear k0 hB0 q0 q1 hG hL hq
  have HM := Lib.hid hm
  by_cases h1 : m = 1
  · obtain ⟨gg, og, rfl, hg0, hcg⟩ := hgr.int (show 0 < m by omega)
    have HG0 : Hid (L.getD 0 0 = L[0]) := Lib.hid (getD_of_lt 0 hg0)
    rw [Nat.add_zero] at hcg
    obtain ⟨gv, hgv⟩ : ∃ v, v = L[0] := ⟨_, rfl⟩
    rw [← hgv] at hcg HG0
    clear hgv hg0 hgr hm
    have HZ0 : Hid (isBl P sq n xs = (((q : Nat) : Int) == gv)) := Lib.hid (by rw [HGL.out, HG0.out, h1, Bool.eq_iff_iff]; simp)
    cases hz : (((q : Nat) : Int) == gv)
    all_goals
      have HZ := Lib.hid (HZ0.out.trans hz)
      subst h1
    · go_wp2
      refine wp_obs 14 [[], [0], [0, 1], [0, 1, 2], [0, 1, 2, 3], [0, 1, 2, 3], [0, 1, 2, 3, 4, 5], [0, 1, 2, 3, 4, 5, 6], [0, 1, 2, 3], [0, 1, 2, 3, 8], [0, 1, 2, 3, 8, 9], [0, 1, 2, 3, 4, 5, 6, 7, 8, 9, 10], [0, 1, 2, 3, 4, 5, 6, 7, 8, 9, 10, 11], [0, 1, 2, 3, 4, 5, 6, 7, 8, 9, 10, 11, 12]] [VIs (.slice (some ⟨gg, og, none⟩) 1 cg), VIs (.int .i64 ((1 : Nat))), VIs (.bool true), VIs (.bool true), VIs (.agg #[.int .i64 P, .slice A n c]), VIs (.slice X (pw n) cx), VMat w q (subL P sq n xs), VIs (.int .i64 (q)), VIs (.slice (some ⟨gg, og, none⟩) 1 cg), VIs (.pointer (some ⟨gg, og, none⟩)), VIs (.int .i64 (gv)), VIs (.bool false), VIs (.bool false), VIs (.bool false)] (fun w' => w'.cell? ⟨gg, og, none⟩ = some (.int .i64 gv) ∧ Blk w' w.heap.size 26 #[.int .i64 P, .slice A n c] ∧ Below w.heap.size w w') (by kernel_rfl) (by kernel_rfl) (fun _ _ h hb => ⟨(hb.cell (World.block_lt_of_cell? _ _ h.1)).trans h.1, h.2.1.below hb h.2.1.lt, h.2.2.trans (hb.mono h.2.2.size)⟩) (⟨hcg, k1.drew, hB1.drew⟩) (fun x => ?_)
      refine obs_step (Eq.trans (by simp only [List.getElem?_toArray, List.getElem?_cons_zero]; exact rfl) rfl) rfl (fun w' hS hV K hK => ?_) ?_
      · have q2 := hS.1; obtain ⟨q0, q1⟩ := hS.2.1.two
        go_simp
        exact hK.out _ _ _ rfl rfl rfl (Below.refl _ _)
      simp only [List.setIfInBounds_toArray, List.set_cons_zero, List.set_cons_succ]
      refine obs_step (Eq.trans (by simp only [List.getElem?_toArray, List.getElem?_cons_succ, List.getElem?_cons_zero]; exact rfl) rfl) rfl (fun w' hS hV K hK => ?_) ?_
      · have e0 : x 0 = (.slice (some ⟨gg, og, none⟩) 1 cg) := hV 0 (by decide)
        have q2 := hS.1; obtain ⟨q0, q1⟩ := hS.2.1.two
        go_simp
        exact hK.out _ _ _ rfl rfl rfl (Below.refl _ _)
      simp only [List.setIfInBounds_toArray, List.set_cons_zero, List.set_cons_succ]
      refine obs_step (Eq.trans (by simp only [List.getElem?_toArray, List.getElem?_cons_succ, List.getElem?_cons_zero]; exact rfl) rfl) rfl (fun w' hS hV K hK => ?_) ?_
      · have e0 : x 0 = (.slice (some ⟨gg, og, none⟩) 1 cg) := hV 0 (by decide)
        have e1 : x 1 = (.int .i64 ((1 : Nat))) := hV 1 (by decide)
        have q2 := hS.1; obtain ⟨q0, q1⟩ := hS.2.1.two
        go_simp
        exact hK.out _ _ _ rfl rfl rfl (Below.refl _ _)
      simp only [List.setIfInBounds_toArray, List.set_cons_zero, List.set_cons_succ]
      refine obs_step (Eq.trans (by simp only [List.getElem?_toArray, List.getElem?_cons_succ, List.getElem?_cons_zero]; exact rfl) rfl) rfl (fun w' hS hV K hK => ?_) ?_
      · have e0 : x 0 = (.slice (some ⟨gg, og, none⟩) 1 cg) := hV 0 (by decide)
        have e1 : x 1 = (.int .i64 ((1 : Nat))) := hV 1 (by decide)
        have e2 : x 2 = (.bool true) := hV 2 (by decide)
        have q2 := hS.1; obtain ⟨q0, q1⟩ := hS.2.1.two
        go_simp
        exact hK.out _ _ _ rfl rfl rfl (Below.refl _ _)
      simp only [List.setIfInBounds_toArray, List.set_cons_zero, List.set_cons_succ]
      refine obs_step (Eq.trans (by simp only [List.getElem?_toArray, List.getElem?_cons_succ, List.getElem?_cons_zero]; exact rfl) rfl) rfl (fun w' hS hV K hK => ?_) ?_
      · have e0 : x 0 = (.slice (some ⟨gg, og, none⟩) 1 cg) := hV 0 (by decide)
        have e1 : x 1 = (.int .i64 ((1 : Nat))) := hV 1 (by decide)
        have e2 : x 2 = (.bool true) := hV 2 (by decide)
        have e3 : x 3 = (.bool true) := hV 3 (by decide)
        have q2 := hS.1; obtain ⟨q0, q1⟩ := hS.2.1.two
        go_simp
        exact hK.out _ _ _ rfl rfl rfl (Below.refl _ _)
      simp only [List.setIfInBounds_toArray, List.set_cons_zero, List.set_cons_succ]
      refine obs_step (Eq.trans (by simp only [List.getElem?_toArray, List.getElem?_cons_succ, List.getElem?_cons_zero]; exact rfl) rfl) rfl (fun w' hS hV K hK => ?_) ?_
      · have e0 : x 0 = (.slice (some ⟨gg, og, none⟩) 1 cg) := hV 0 (by decide)
        have e1 : x 1 = (.int .i64 ((1 : Nat))) := hV 1 (by decide)
        have e2 : x 2 = (.bool true) := hV 2 (by decide)
        have e3 : x 3 = (.bool true) := hV 3 (by decide)
        have q2 := hS.1; obtain ⟨q0, q1⟩ := hS.2.1.two
        go_simp
        exact hK.out _ _ _ rfl rfl rfl (Below.refl _ _)
      simp only [List.setIfInBounds_toArray, List.set_cons_zero, List.set_cons_succ]
      refine obs_step (Eq.trans (by simp only [List.getElem?_toArray, List.getElem?_cons_succ, List.getElem?_cons_zero]; exact rfl) rfl) rfl (fun w' hS hV K hK => ?_) ?_
      · have e0 : x 0 = (.slice (some ⟨gg, og, none⟩) 1 cg) := hV 0 (by decide)
        have e1 : x 1 = (.int .i64 ((1 : Nat))) := hV 1 (by decide)
        have e2 : x 2 = (.bool true) := hV 2 (by decide)
        have e3 : x 3 = (.bool true) := hV 3 (by decide)
        have e4 : x 4 = (.agg #[.int .i64 P, .slice A n c]) := hV 4 (by decide)
        have e5 : x 5 = (.slice X (pw n) cx) := hV 5 (by decide)
        have q2 := hS.1; obtain ⟨q0, q1⟩ := hS.2.1.two
        go_simp
        refine (HSUB.out _ hS.2.2).mono ?_
        rw [← HQ.out]
        rintro e v1 ⟨A2, c2, rfl, hM⟩
        exact hK.out _ _ _ rfl rfl ⟨_, _, rfl, hM.after hS.2.2⟩ hM.b
      simp only [List.setIfInBounds_toArray, List.set_cons_zero, List.set_cons_succ]
      refine obs_step (Eq.trans (by simp only [List.getElem?_toArray, List.getElem?_cons_succ, List.getElem?_cons_zero]; exact rfl) rfl) rfl (fun w' hS hV K hK => ?_) ?_
      · have e0 : x 0 = (.slice (some ⟨gg, og, none⟩) 1 cg) := hV 0 (by decide)
        have e1 : x 1 = (.int .i64 ((1 : Nat))) := hV 1 (by decide)
        have e2 : x 2 = (.bool true) := hV 2 (by decide)
        have e3 : x 3 = (.bool true) := hV 3 (by decide)
        have e4 : x 4 = (.agg #[.int .i64 P, .slice A n c]) := hV 4 (by decide)
        have e5 : x 5 = (.slice X (pw n) cx) := hV 5 (by decide)
        obtain ⟨A6, c6, e6, h6⟩ := hV 6 (by decide)
        have q2 := hS.1; obtain ⟨q0, q1⟩ := hS.2.1.two
        go_simp
        refine (lengthS_any _ _ _ _).mono ?_
        rintro e v1 ⟨rfl, rfl⟩
        exact hK.out _ _ _ rfl rfl rfl (Below.refl _ _)
      simp only [List.setIfInBounds_toArray, List.set_cons_zero, List.set_cons_succ]
      refine obs_step (Eq.trans (by simp only [List.getElem?_toArray, List.getElem?_cons_succ, List.getElem?_cons_zero]; exact rfl) rfl) rfl (fun w' hS hV K hK => ?_) ?_
      · have e0 : x 0 = (.slice (some ⟨gg, og, none⟩) 1 cg) := hV 0 (by decide)
        have e1 : x 1 = (.int .i64 ((1 : Nat))) := hV 1 (by decide)
        have e2 : x 2 = (.bool true) := hV 2 (by decide)
        have e3 : x 3 = (.bool true) := hV 3 (by decide)
        have q2 := hS.1; obtain ⟨q0, q1⟩ := hS.2.1.two
        go_simp
        exact hK.out _ _ _ rfl rfl rfl (Below.refl _ _)
      simp only [List.setIfInBounds_toArray, List.set_cons_zero, List.set_cons_succ]
      refine obs_step (Eq.trans (by simp only [List.getElem?_toArray, List.getElem?_cons_succ, List.getElem?_cons_zero]; exact rfl) rfl) rfl (fun w' hS hV K hK => ?_) ?_
      · have e0 : x 0 = (.slice (some ⟨gg, og, none⟩) 1 cg) := hV 0 (by decide)
        have e1 : x 1 = (.int .i64 ((1 : Nat))) := hV 1 (by decide)
        have e2 : x 2 = (.bool true) := hV 2 (by decide)
        have e3 : x 3 = (.bool true) := hV 3 (by decide)
        have e8 : x 8 = (.slice (some ⟨gg, og, none⟩) 1 cg) := hV 8 (by decide)
        have q2 := hS.1; obtain ⟨q0, q1⟩ := hS.2.1.two
        go_simp
        exact hK.out _ _ _ rfl rfl rfl (Below.refl _ _)
      simp only [List.setIfInBounds_toArray, List.set_cons_zero, List.set_cons_succ]
      refine obs_step (Eq.trans (by simp only [List.getElem?_toArray, List.getElem?_cons_succ, List.getElem?_cons_zero]; exact rfl) rfl) rfl (fun w' hS hV K hK => ?_) ?_
      · have e0 : x 0 = (.slice (some ⟨gg, og, none⟩) 1 cg) := hV 0 (by decide)
        have e1 : x 1 = (.int .i64 ((1 : Nat))) := hV 1 (by decide)
        have e2 : x 2 = (.bool true) := hV 2 (by decide)
        have e3 : x 3 = (.bool true) := hV 3 (by decide)
        have e8 : x 8 = (.slice (some ⟨gg, og, none⟩) 1 cg) := hV 8 (by decide)
        have e9 : x 9 = (.pointer (some ⟨gg, og, none⟩)) := hV 9 (by decide)
        have q2 := hS.1; obtain ⟨q0, q1⟩ := hS.2.1.two
        go_simp
        exact hK.out _ _ _ rfl rfl rfl (Below.refl _ _)
      simp only [List.setIfInBounds_toArray, List.set_cons_zero, List.set_cons_succ]
      refine obs_step (Eq.trans (by simp only [List.getElem?_toArray, List.getElem?_cons_succ, List.getElem?_cons_zero]; exact rfl) rfl) rfl (fun w' hS hV K hK => ?_) ?_
      · have e0 : x 0 = (.slice (some ⟨gg, og, none⟩) 1 cg) := hV 0 (by decide)
        have e1 : x 1 = (.int .i64 ((1 : Nat))) := hV 1 (by decide)
        have e2 : x 2 = (.bool true) := hV 2 (by decide)
        have e3 : x 3 = (.bool true) := hV 3 (by decide)
        have e4 : x 4 = (.agg #[.int .i64 P, .slice A n c]) := hV 4 (by decide)
        have e5 : x 5 = (.slice X (pw n) cx) := hV 5 (by decide)
        obtain ⟨A6, c6, e6, h6⟩ := hV 6 (by decide)
        have e7 : x 7 = (.int .i64 (q)) := hV 7 (by decide)
        have e8 : x 8 = (.slice (some ⟨gg, og, none⟩) 1 cg) := hV 8 (by decide)
        have e9 : x 9 = (.pointer (some ⟨gg, og, none⟩)) := hV 9 (by decide)
        have e10 : x 10 = (.int .i64 (gv)) := hV 10 (by decide)
        have q2 := hS.1; obtain ⟨q0, q1⟩ := hS.2.1.two
        go_simp
        exact hK.out _ _ _ rfl rfl rfl (Below.refl _ _)
      simp only [List.setIfInBounds_toArray, List.set_cons_zero, List.set_cons_succ]
      refine obs_step (Eq.trans (by simp only [List.getElem?_toArray, List.getElem?_cons_succ, List.getElem?_cons_zero]; exact rfl) rfl) rfl (fun w' hS hV K hK => ?_) ?_
      · have e0 : x 0 = (.slice (some ⟨gg, og, none⟩) 1 cg) := hV 0 (by decide)
        have e1 : x 1 = (.int .i64 ((1 : Nat))) := hV 1 (by decide)
        have e2 : x 2 = (.bool true) := hV 2 (by decide)
        have e3 : x 3 = (.bool true) := hV 3 (by decide)
        have e4 : x 4 = (.agg #[.int .i64 P, .slice A n c]) := hV 4 (by decide)
        have e5 : x 5 = (.slice X (pw n) cx) := hV 5 (by decide)
        obtain ⟨A6, c6, e6, h6⟩ := hV 6 (by decide)
        have e7 : x 7 = (.int .i64 (q)) := hV 7 (by decide)
        have e8 : x 8 = (.slice (some ⟨gg, og, none⟩) 1 cg) := hV 8 (by decide)
        have e9 : x 9 = (.pointer (some ⟨gg, og, none⟩)) := hV 9 (by decide)
        have e10 : x 10 = (.int .i64 (gv)) := hV 10 (by decide)
        have e11 : x 11 = (.bool false) := hV 11 (by decide)
        have q2 := hS.1; obtain ⟨q0, q1⟩ := hS.2.1.two
        go_simp
        exact hK.out _ _ _ rfl rfl rfl (Below.refl _ _)
      simp only [List.setIfInBounds_toArray, List.set_cons_zero, List.set_cons_succ]
      refine obs_step (Eq.trans (by simp only [List.getElem?_toArray, List.getElem?_cons_succ, List.getElem?_cons_zero]; exact rfl) rfl) rfl (fun w' hS hV K hK => ?_) ?_
      · have e0 : x 0 = (.slice (some ⟨gg, og, none⟩) 1 cg) := hV 0 (by decide)
        have e1 : x 1 = (.int .i64 ((1 : Nat))) := hV 1 (by decide)
        have e2 : x 2 = (.bool true) := hV 2 (by decide)
        have e3 : x 3 = (.bool true) := hV 3 (by decide)
        have e4 : x 4 = (.agg #[.int .i64 P, .slice A n c]) := hV 4 (by decide)
        have e5 : x 5 = (.slice X (pw n) cx) := hV 5 (by decide)
        obtain ⟨A6, c6, e6, h6⟩ := hV 6 (by decide)
        have e7 : x 7 = (.int .i64 (q)) := hV 7 (by decide)
        have e8 : x 8 = (.slice (some ⟨gg, og, none⟩) 1 cg) := hV 8 (by decide)
        have e9 : x 9 = (.pointer (some ⟨gg, og, none⟩)) := hV 9 (by decide)
        have e10 : x 10 = (.int .i64 (gv)) := hV 10 (by decide)
        have e11 : x 11 = (.bool false) := hV 11 (by decide)
        have e12 : x 12 = (.bool false) := hV 12 (by decide)
        have q2 := hS.1; obtain ⟨q0, q1⟩ := hS.2.1.two
        go_simp
        exact hK.out _ _ _ rfl rfl rfl (Below.refl _ _)
      simp only [List.setIfInBounds_toArray, List.set_cons_zero, List.set_cons_succ]
      refine fun w' hS hV => ?_
      have e0 : x 0 = (.slice (some ⟨gg, og, none⟩) 1 cg) := hV 0 (by decide)
      have e1 : x 1 = (.int .i64 ((1 : Nat))) := hV 1 (by decide)
      have e2 : x 2 = (.bool true) := hV 2 (by decide)
      have e3 : x 3 = (.bool true) := hV 3 (by decide)
      have e4 : x 4 = (.agg #[.int .i64 P, .slice A n c]) := hV 4 (by decide)
      have e5 : x 5 = (.slice X (pw n) cx) := hV 5 (by decide)
      obtain ⟨A6, c6, e6, h6⟩ := hV 6 (by decide)
      have e7 : x 7 = (.int .i64 (q)) := hV 7 (by decide)
      have e8 : x 8 = (.slice (some ⟨gg, og, none⟩) 1 cg) := hV 8 (by decide)
      have e9 : x 9 = (.pointer (some ⟨gg, og, none⟩)) := hV 9 (by decide)
      have e10 : x 10 = (.int .i64 (gv)) := hV 10 (by decide)
      have e11 : x 11 = (.bool false) := hV 11 (by decide)
      have e12 : x 12 = (.bool false) := hV 12 (by decide)
      have e13 : x 13 = (.bool false) := hV 13 (by decide)
      simp only [e0, e1, e2, e3, e4, e5, e6, e7, e8, e9, e10, e11, e12, e13]
      clear e0 e1 e2 e3 e4 e5 e6 e7 e8 e9 e10 e11 e12 e13
      refine wpAny_done (by kernel_rfl) ?_ _
      go_wp2
      go_ret
      exact ⟨ret_bool HZ.out.symm, hS.2.2⟩
    · go_wp2
      refine wp_obs 14 [[], [0], [0, 1], [0, 1, 2], [0, 1, 2, 3], [0, 1, 2, 3], [0, 1, 2, 3, 4, 5], [0, 1, 2, 3, 4, 5, 6], [0, 1, 2, 3], [0, 1, 2, 3, 8], [0, 1, 2, 3, 8, 9], [0, 1, 2, 3, 4, 5, 6, 7, 8, 9, 10], [0, 1, 2, 3, 4, 5, 6, 7, 8, 9, 10, 11], [0, 1, 2, 3, 4, 5, 6, 7, 8, 9, 10, 11, 12]] [VIs (.slice (some ⟨gg, og, none⟩) 1 cg), VIs (.int .i64 ((1 : Nat))), VIs (.bool true), VIs (.bool true), VIs (.agg #[.int .i64 P, .slice A n c]), VIs (.slice X (pw n) cx), VMat w q (subL P sq n xs), VIs (.int .i64 (q)), VIs (.slice (some ⟨gg, og, none⟩) 1 cg), VIs (.pointer (some ⟨gg, og, none⟩)), VIs (.int .i64 (gv)), VIs (.bool true), VIs (.bool true), VIs (.bool true)] (fun w' => w'.cell? ⟨gg, og, none⟩ = some (.int .i64 gv) ∧ Blk w' w.heap.size 26 #[.int .i64 P, .slice A n c] ∧ Below w.heap.size w w') (by kernel_rfl) (by kernel_rfl) (fun _ _ h hb => ⟨(hb.cell (World.block_lt_of_cell? _ _ h.1)).trans h.1, h.2.1.below hb h.2.1.lt, h.2.2.trans (hb.mono h.2.2.size)⟩) (⟨hcg, k1.drew, hB1.drew⟩) (fun x => ?_)
      refine obs_step (Eq.trans (by simp only [List.getElem?_toArray, List.getElem?_cons_zero]; exact rfl) rfl) rfl (fun w' hS hV K hK => ?_) ?_
      · have q2 := hS.1; obtain ⟨q0, q1⟩ := hS.2.1.two
        go_simp
        exact hK.out _ _ _ rfl rfl rfl (Below.refl _ _)
      simp only [List.setIfInBounds_toArray, List.set_cons_zero, List.set_cons_succ]
      refine obs_step (Eq.trans (by simp only [List.getElem?_toArray, List.getElem?_cons_succ, List.getElem?_cons_zero]; exact rfl) rfl) rfl (fun w' hS hV K hK => ?_) ?_
      · have e0 : x 0 = (.slice (some ⟨gg, og, none⟩) 1 cg) := hV 0 (by decide)
        have q2 := hS.1; obtain ⟨q0, q1⟩ := hS.2.1.two
        go_simp
        exact hK.out _ _ _ rfl rfl rfl (Below.refl _ _)
      simp only [List.setIfInBounds_toArray, List.set_cons_zero, List.set_cons_succ]
      refine obs_step (Eq.trans (by simp only [List.getElem?_toArray, List.getElem?_cons_succ, List.getElem?_cons_zero]; exact rfl) rfl) rfl (fun w' hS hV K hK => ?_) ?_
      · have e0 : x 0 = (.slice (some ⟨gg, og, none⟩) 1 cg) := hV 0 (by decide)
        have e1 : x 1 = (.int .i64 ((1 : Nat))) := hV 1 (by decide)
        have q2 := hS.1; obtain ⟨q0, q1⟩ := hS.2.1.two
        go_simp
        exact hK.out _ _ _ rfl rfl rfl (Below.refl _ _)
      simp only [List.setIfInBounds_toArray, List.set_cons_zero, List.set_cons_succ]
      refine obs_step (Eq.trans (by simp only [List.getElem?_toArray, List.getElem?_cons_succ, List.getElem?_cons_zero]; exact rfl) rfl) rfl (fun w' hS hV K hK => ?_) ?_
      · have e0 : x 0 = (.slice (some ⟨gg, og, none⟩) 1 cg) := hV 0 (by decide)
        have e1 : x 1 = (.int .i64 ((1 : Nat))) := hV 1 (by decide)
        have e2 : x 2 = (.bool true) := hV 2 (by decide)
        have q2 := hS.1; obtain ⟨q0, q1⟩ := hS.2.1.two
        go_simp
        exact hK.out _ _ _ rfl rfl rfl (Below.refl _ _)
      simp only [List.setIfInBounds_toArray, List.set_cons_zero, List.set_cons_succ]
      refine obs_step (Eq.trans (by simp only [List.getElem?_toArray, List.getElem?_cons_succ, List.getElem?_cons_zero]; exact rfl) rfl) rfl (fun w' hS hV K hK => ?_) ?_
      · have e0 : x 0 = (.slice (some ⟨gg, og, none⟩) 1 cg) := hV 0 (by decide)
        have e1 : x 1 = (.int .i64 ((1 : Nat))) := hV 1 (by decide)
        have e2 : x 2 = (.bool true) := hV 2 (by decide)
        have e3 : x 3 = (.bool true) := hV 3 (by decide)
        have q2 := hS.1; obtain ⟨q0, q1⟩ := hS.2.1.two
        go_simp
        exact hK.out _ _ _ rfl rfl rfl (Below.refl _ _)
      simp only [List.setIfInBounds_toArray, List.set_cons_zero, List.set_cons_succ]
      refine obs_step (Eq.trans (by simp only [List.getElem?_toArray, List.getElem?_cons_succ, List.getElem?_cons_zero]; exact rfl) rfl) rfl (fun w' hS hV K hK => ?_) ?_
      · have e0 : x 0 = (.slice (some ⟨gg, og, none⟩) 1 cg) := hV 0 (by decide)
        have e1 : x 1 = (.int .i64 ((1 : Nat))) := hV 1 (by decide)
        have e2 : x 2 = (.bool true) := hV 2 (by decide)
        have e3 : x 3 = (.bool true) := hV 3 (by decide)
        have q2 := hS.1; obtain ⟨q0, q1⟩ := hS.2.1.two
        go_simp
        exact hK.out _ _ _ rfl rfl rfl (Below.refl _ _)
      simp only [List.setIfInBounds_toArray, List.set_cons_zero, List.set_cons_succ]
      refine obs_step (Eq.trans (by simp only [List.getElem?_toArray, List.getElem?_cons_succ, List.getElem?_cons_zero]; exact rfl) rfl) rfl (fun w' hS hV K hK => ?_) ?_
      · have e0 : x 0 = (.slice (some ⟨gg, og, none⟩) 1 cg) := hV 0 (by decide)
        have e1 : x 1 = (.int .i64 ((1 : Nat))) := hV 1 (by decide)
        have e2 : x 2 = (.bool true) := hV 2 (by decide)
        have e3 : x 3 = (.bool true) := hV 3 (by decide)
        have e4 : x 4 = (.agg #[.int .i64 P, .slice A n c]) := hV 4 (by decide)
        have e5 : x 5 = (.slice X (pw n) cx) := hV 5 (by decide)
        have q2 := hS.1; obtain ⟨q0, q1⟩ := hS.2.1.two
        go_simp
        refine (HSUB.out _ hS.2.2).mono ?_
        rw [← HQ.out]
        rintro e v1 ⟨A2, c2, rfl, hM⟩
        exact hK.out _ _ _ rfl rfl ⟨_, _, rfl, hM.after hS.2.2⟩ hM.b
      simp only [List.setIfInBounds_toArray, List.set_cons_zero, List.set_cons_succ]
      refine obs_step (Eq.trans (by simp only [List.getElem?_toArray, List.getElem?_cons_succ, List.getElem?_cons_zero]; exact rfl) rfl) rfl (fun w' hS hV K hK => ?_) ?_
      · have e0 : x 0 = (.slice (some ⟨gg, og, none⟩) 1 cg) := hV 0 (by decide)
        have e1 : x 1 = (.int .i64 ((1 : Nat))) := hV 1 (by decide)
        have e2 : x 2 = (.bool true) := hV 2 (by decide)
        have e3 : x 3 = (.bool true) := hV 3 (by decide)
        have e4 : x 4 = (.agg #[.int .i64 P, .slice A n c]) := hV 4 (by decide)
        have e5 : x 5 = (.slice X (pw n) cx) := hV 5 (by decide)
        obtain ⟨A6, c6, e6, h6⟩ := hV 6 (by decide)
        have q2 := hS.1; obtain ⟨q0, q1⟩ := hS.2.1.two
        go_simp
        refine (lengthS_any _ _ _ _).mono ?_
        rintro e v1 ⟨rfl, rfl⟩
        exact hK.out _ _ _ rfl rfl rfl (Below.refl _ _)
      simp only [List.setIfInBounds_toArray, List.set_cons_zero, List.set_cons_succ]
      refine obs_step (Eq.trans (by simp only [List.getElem?_toArray, List.getElem?_cons_succ, List.getElem?_cons_zero]; exact rfl) rfl) rfl (fun w' hS hV K hK => ?_) ?_
      · have e0 : x 0 = (.slice (some ⟨gg, og, none⟩) 1 cg) := hV 0 (by decide)
        have e1 : x 1 = (.int .i64 ((1 : Nat))) := hV 1 (by decide)
        have e2 : x 2 = (.bool true) := hV 2 (by decide)
        have e3 : x 3 = (.bool true) := hV 3 (by decide)
        have q2 := hS.1; obtain ⟨q0, q1⟩ := hS.2.1.two
        go_simp
        exact hK.out _ _ _ rfl rfl rfl (Below.refl _ _)
      simp only [List.setIfInBounds_toArray, List.set_cons_zero, List.set_cons_succ]
      refine obs_step (Eq.trans (by simp only [List.getElem?_toArray, List.getElem?_cons_succ, List.getElem?_cons_zero]; exact rfl) rfl) rfl (fun w' hS hV K hK => ?_) ?_
      · have e0 : x 0 = (.slice (some ⟨gg, og, none⟩) 1 cg) := hV 0 (by decide)
        have e1 : x 1 = (.int .i64 ((1 : Nat))) := hV 1 (by decide)
        have e2 : x 2 = (.bool true) := hV 2 (by decide)
        have e3 : x 3 = (.bool true) := hV 3 (by decide)
        have e8 : x 8 = (.slice (some ⟨gg, og, none⟩) 1 cg) := hV 8 (by decide)
        have q2 := hS.1; obtain ⟨q0, q1⟩ := hS.2.1.two
        go_simp
        exact hK.out _ _ _ rfl rfl rfl (Below.refl _ _)
      simp only [List.setIfInBounds_toArray, List.set_cons_zero, List.set_cons_succ]
      refine obs_step (Eq.trans (by simp only [List.getElem?_toArray, List.getElem?_cons_succ, List.getElem?_cons_zero]; exact rfl) rfl) rfl (fun w' hS hV K hK => ?_) ?_
      · have e0 : x 0 = (.slice (some ⟨gg, og, none⟩) 1 cg) := hV 0 (by decide)
        have e1 : x 1 = (.int .i64 ((1 : Nat))) := hV 1 (by decide)
        have e2 : x 2 = (.bool true) := hV 2 (by decide)
        have e3 : x 3 = (.bool true) := hV 3 (by decide)
        have e8 : x 8 = (.slice (some ⟨gg, og, none⟩) 1 cg) := hV 8 (by decide)
        have e9 : x 9 = (.pointer (some ⟨gg, og, none⟩)) := hV 9 (by decide)
        have q2 := hS.1; obtain ⟨q0, q1⟩ := hS.2.1.two
        go_simp
        exact hK.out _ _ _ rfl rfl rfl (Below.refl _ _)
      simp only [List.setIfInBounds_toArray, List.set_cons_zero, List.set_cons_succ]
      refine obs_step (Eq.trans (by simp only [List.getElem?_toArray, List.getElem?_cons_succ, List.getElem?_cons_zero]; exact rfl) rfl) rfl (fun w' hS hV K hK => ?_) ?_
      · have e0 : x 0 = (.slice (some ⟨gg, og, none⟩) 1 cg) := hV 0 (by decide)
        have e1 : x 1 = (.int .i64 ((1 : Nat))) := hV 1 (by decide)
        have e2 : x 2 = (.bool true) := hV 2 (by decide)
        have e3 : x 3 = (.bool true) := hV 3 (by decide)
        have e4 : x 4 = (.agg #[.int .i64 P, .slice A n c]) := hV 4 (by decide)
        have e5 : x 5 = (.slice X (pw n) cx) := hV 5 (by decide)
        obtain ⟨A6, c6, e6, h6⟩ := hV 6 (by decide)
        have e7 : x 7 = (.int .i64 (q)) := hV 7 (by decide)
        have e8 : x 8 = (.slice (some ⟨gg, og, none⟩) 1 cg) := hV 8 (by decide)
        have e9 : x 9 = (.pointer (some ⟨gg, og, none⟩)) := hV 9 (by decide)
        have e10 : x 10 = (.int .i64 (gv)) := hV 10 (by decide)
        have q2 := hS.1; obtain ⟨q0, q1⟩ := hS.2.1.two
        go_simp
        exact hK.out _ _ _ rfl rfl rfl (Below.refl _ _)
      simp only [List.setIfInBounds_toArray, List.set_cons_zero, List.set_cons_succ]
      refine obs_step (Eq.trans (by simp only [List.getElem?_toArray, List.getElem?_cons_succ, List.getElem?_cons_zero]; exact rfl) rfl) rfl (fun w' hS hV K hK => ?_) ?_
      · have e0 : x 0 = (.slice (some ⟨gg, og, none⟩) 1 cg) := hV 0 (by decide)
        have e1 : x 1 = (.int .i64 ((1 : Nat))) := hV 1 (by decide)
        have e2 : x 2 = (.bool true) := hV 2 (by decide)
        have e3 : x 3 = (.bool true) := hV 3 (by decide)
        have e4 : x 4 = (.agg #[.int .i64 P, .slice A n c]) := hV 4 (by decide)
        have e5 : x 5 = (.slice X (pw n) cx) := hV 5 (by decide)
        obtain ⟨A6, c6, e6, h6⟩ := hV 6 (by decide)
        have e7 : x 7 = (.int .i64 (q)) := hV 7 (by decide)
        have e8 : x 8 = (.slice (some ⟨gg, og, none⟩) 1 cg) := hV 8 (by decide)
        have e9 : x 9 = (.pointer (some ⟨gg, og, none⟩)) := hV 9 (by decide)
        have e10 : x 10 = (.int .i64 (gv)) := hV 10 (by decide)
        have e11 : x 11 = (.bool true) := hV 11 (by decide)
        have q2 := hS.1; obtain ⟨q0, q1⟩ := hS.2.1.two
        go_simp
        exact hK.out _ _ _ rfl rfl rfl (Below.refl _ _)
      simp only [List.setIfInBounds_toArray, List.set_cons_zero, List.set_cons_succ]
      refine obs_step (Eq.trans (by simp only [List.getElem?_toArray, List.getElem?_cons_succ, List.getElem?_cons_zero]; exact rfl) rfl) rfl (fun w' hS hV K hK => ?_) ?_
      · have e0 : x 0 = (.slice (some ⟨gg, og, none⟩) 1 cg) := hV 0 (by decide)
        have e1 : x 1 = (.int .i64 ((1 : Nat))) := hV 1 (by decide)
        have e2 : x 2 = (.bool true) := hV 2 (by decide)
        have e3 : x 3 = (.bool true) := hV 3 (by decide)
        have e4 : x 4 = (.agg #[.int .i64 P, .slice A n c]) := hV 4 (by decide)
        have e5 : x 5 = (.slice X (pw n) cx) := hV 5 (by decide)
        obtain ⟨A6, c6, e6, h6⟩ := hV 6 (by decide)
        have e7 : x 7 = (.int .i64 (q)) := hV 7 (by decide)
        have e8 : x 8 = (.slice (some ⟨gg, og, none⟩) 1 cg) := hV 8 (by decide)
        have e9 : x 9 = (.pointer (some ⟨gg, og, none⟩)) := hV 9 (by decide)
        have e10 : x 10 = (.int .i64 (gv)) := hV 10 (by decide)
        have e11 : x 11 = (.bool true) := hV 11 (by decide)
        have e12 : x 12 = (.bool true) := hV 12 (by decide)
        have q2 := hS.1; obtain ⟨q0, q1⟩ := hS.2.1.two
        go_simp
        exact hK.out _ _ _ rfl rfl rfl (Below.refl _ _)
      simp only [List.setIfInBounds_toArray, List.set_cons_zero, List.set_cons_succ]
      refine fun w' hS hV => ?_
      have e0 : x 0 = (.slice (some ⟨gg, og, none⟩) 1 cg) := hV 0 (by decide)
      have e1 : x 1 = (.int .i64 ((1 : Nat))) := hV 1 (by decide)
      have e2 : x 2 = (.bool true) := hV 2 (by decide)
      have e3 : x 3 = (.bool true) := hV 3 (by decide)
      have e4 : x 4 = (.agg #[.int .i64 P, .slice A n c]) := hV 4 (by decide)
      have e5 : x 5 = (.slice X (pw n) cx) := hV 5 (by decide)
      obtain ⟨A6, c6, e6, h6⟩ := hV 6 (by decide)
      have e7 : x 7 = (.int .i64 (q)) := hV 7 (by decide)
      have e8 : x 8 = (.slice (some ⟨gg, og, none⟩) 1 cg) := hV 8 (by decide)
      have e9 : x 9 = (.pointer (some ⟨gg, og, none⟩)) := hV 9 (by decide)
      have e10 : x 10 = (.int .i64 (gv)) := hV 10 (by decide)
      have e11 : x 11 = (.bool true) := hV 11 (by decide)
      have e12 : x 12 = (.bool true) := hV 12 (by decide)
      have e13 : x 13 = (.bool true) := hV 13 (by decide)
      simp only [e0, e1, e2, e3, e4, e5, e6, e7, e8, e9, e10, e11, e12, e13]
      clear e0 e1 e2 e3 e4 e5 e6 e7 e8 e9 e10 e11 e12 e13
      refine wpAny_done (by kernel_rfl) ?_ _
      go_wp2
      go_ret
      exact ⟨ret_bool HZ.out.symm, hS.2.2⟩
  · have HZ : Hid (isBl P sq n xs = false) := Lib.hid (by rw [HGL.out]; simp [h1])
    have hm1 : (((m : Nat) : Int) == 1) = false := by simp; omega
    clear hgr hm
    go_wp2
    refine wp_obs 14 [[], [0], [0, 1], [0, 1, 2], [0, 1, 2, 3], [0, 1, 2, 3], [0, 1, 2, 3, 4, 5], [0, 1, 2, 3, 4, 5, 6], [0, 1, 2, 3], [0, 1, 2, 3, 8], [0, 1, 2, 3, 8, 9], [0, 1, 2, 3, 4, 5, 6, 7, 8, 9, 10], [0, 1, 2, 3, 4, 5, 6, 7, 8, 9, 10, 11], [0, 1, 2, 3, 4, 5, 6, 7, 8, 9, 10, 11, 12]] [VIs (.slice G m cg), VIs (.int .i64 (m)), VIs (.bool false), VIs (.bool false), VIs undef, VIs undef, VIs undef, VIs undef, VIs undef, VIs undef, VIs undef, VIs undef, VIs (.bool false), VIs (.bool false)] (fun w' => Blk w' w.heap.size 26 #[.int .i64 P, .slice A n c] ∧ Below w.heap.size w w') (by kernel_rfl) (by kernel_rfl) (fun _ _ h hb => ⟨h.1.below hb h.1.lt, h.2.trans (hb.mono h.2.size)⟩) (⟨k1.drew, hB1.drew⟩) (fun x => ?_)
    refine obs_step (Eq.trans (by simp only [List.getElem?_toArray, List.getElem?_cons_zero]; exact rfl) rfl) rfl (fun w' hS hV K hK => ?_) ?_
    · obtain ⟨q0, q1⟩ := hS.1.two
      go_simp
      exact hK.out _ _ _ rfl rfl rfl (Below.refl _ _)
    simp only [List.setIfInBounds_toArray, List.set_cons_zero, List.set_cons_succ]
    refine obs_step (Eq.trans (by simp only [List.getElem?_toArray, List.getElem?_cons_succ, List.getElem?_cons_zero]; exact rfl) rfl) rfl (fun w' hS hV K hK => ?_) ?_
    · have e0 : x 0 = (.slice G m cg) := hV 0 (by decide)
      obtain ⟨q0, q1⟩ := hS.1.two
      go_simp
      exact hK.out _ _ _ rfl rfl rfl (Below.refl _ _)
    simp only [List.setIfInBounds_toArray, List.set_cons_zero, List.set_cons_succ]
    refine obs_step (Eq.trans (by simp only [List.getElem?_toArray, List.getElem?_cons_succ, List.getElem?_cons_zero]; exact rfl) rfl) rfl (fun w' hS hV K hK => ?_) ?_
    · have e0 : x 0 = (.slice G m cg) := hV 0 (by decide)
      have e1 : x 1 = (.int .i64 (m)) := hV 1 (by decide)
      obtain ⟨q0, q1⟩ := hS.1.two
      go_simp
      exact hK.out _ _ _ rfl rfl rfl (Below.refl _ _)
    simp only [List.setIfInBounds_toArray, List.set_cons_zero, List.set_cons_succ]
    refine obs_step (Eq.trans (by simp only [List.getElem?_toArray, List.getElem?_cons_succ, List.getElem?_cons_zero]; exact rfl) rfl) rfl (fun w' hS hV K hK => ?_) ?_
    · have e0 : x 0 = (.slice G m cg) := hV 0 (by decide)
      have e1 : x 1 = (.int .i64 (m)) := hV 1 (by decide)
      have e2 : x 2 = (.bool false) := hV 2 (by decide)
      obtain ⟨q0, q1⟩ := hS.1.two
      go_simp
      exact hK.out _ _ _ rfl rfl rfl (Below.refl _ _)
    simp only [List.setIfInBounds_toArray, List.set_cons_zero, List.set_cons_succ]
    refine obs_step (Eq.trans (by simp only [List.getElem?_toArray, List.getElem?_cons_succ, List.getElem?_cons_zero]; exact rfl) rfl) rfl (fun w' hS hV K hK => ?_) ?_
    · have e0 : x 0 = (.slice G m cg) := hV 0 (by decide)
      have e1 : x 1 = (.int .i64 (m)) := hV 1 (by decide)
      have e2 : x 2 = (.bool false) := hV 2 (by decide)
      have e3 : x 3 = (.bool false) := hV 3 (by decide)
      obtain ⟨q0, q1⟩ := hS.1.two
      go_simp
      exact hK.out _ _ _ rfl rfl rfl (Below.refl _ _)
    simp only [List.setIfInBounds_toArray, List.set_cons_zero, List.set_cons_succ]
    refine obs_step (Eq.trans (by simp only [List.getElem?_toArray, List.getElem?_cons_succ, List.getElem?_cons_zero]; exact rfl) rfl) rfl (fun w' hS hV K hK => ?_) ?_
    · have e0 : x 0 = (.slice G m cg) := hV 0 (by decide)
      have e1 : x 1 = (.int .i64 (m)) := hV 1 (by decide)
      have e2 : x 2 = (.bool false) := hV 2 (by decide)
      have e3 : x 3 = (.bool false) := hV 3 (by decide)
      obtain ⟨q0, q1⟩ := hS.1.two
      go_simp
      exact hK.out _ _ _ rfl rfl rfl (Below.refl _ _)
    simp only [List.setIfInBounds_toArray, List.set_cons_zero, List.set_cons_succ]
    refine obs_step (Eq.trans (by simp only [List.getElem?_toArray, List.getElem?_cons_succ, List.getElem?_cons_zero]; exact rfl) rfl) rfl (fun w' hS hV K hK => ?_) ?_
    · have e0 : x 0 = (.slice G m cg) := hV 0 (by decide)
      have e1 : x 1 = (.int .i64 (m)) := hV 1 (by decide)
      have e2 : x 2 = (.bool false) := hV 2 (by decide)
      have e3 : x 3 = (.bool false) := hV 3 (by decide)
      have e4 : x 4 = undef := hV 4 (by decide)
      have e5 : x 5 = undef := hV 5 (by decide)
      obtain ⟨q0, q1⟩ := hS.1.two
      go_simp
      exact hK.out _ _ _ rfl rfl rfl (Below.refl _ _)
    simp only [List.setIfInBounds_toArray, List.set_cons_zero, List.set_cons_succ]
    refine obs_step (Eq.trans (by simp only [List.getElem?_toArray, List.getElem?_cons_succ, List.getElem?_cons_zero]; exact rfl) rfl) rfl (fun w' hS hV K hK => ?_) ?_
    · have e0 : x 0 = (.slice G m cg) := hV 0 (by decide)
      have e1 : x 1 = (.int .i64 (m)) := hV 1 (by decide)
      have e2 : x 2 = (.bool false) := hV 2 (by decide)
      have e3 : x 3 = (.bool false) := hV 3 (by decide)
      have e4 : x 4 = undef := hV 4 (by decide)
      have e5 : x 5 = undef := hV 5 (by decide)
      have e6 : x 6 = undef := hV 6 (by decide)
      obtain ⟨q0, q1⟩ := hS.1.two
      go_simp
      exact hK.out _ _ _ rfl rfl rfl (Below.refl _ _)
    simp only [List.setIfInBounds_toArray, List.set_cons_zero, List.set_cons_succ]
    refine obs_step (Eq.trans (by simp only [List.getElem?_toArray, List.getElem?_cons_succ, List.getElem?_cons_zero]; exact rfl) rfl) rfl (fun w' hS hV K hK => ?_) ?_
    · have e0 : x 0 = (.slice G m cg) := hV 0 (by decide)
      have e1 : x 1 = (.int .i64 (m)) := hV 1 (by decide)
      have e2 : x 2 = (.bool false) := hV 2 (by decide)
      have e3 : x 3 = (.bool false) := hV 3 (by decide)
      obtain ⟨q0, q1⟩ := hS.1.two
      go_simp
      exact hK.out _ _ _ rfl rfl rfl (Below.refl _ _)
    simp only [List.setIfInBounds_toArray, List.set_cons_zero, List.set_cons_succ]
    refine obs_step (Eq.trans (by simp only [List.getElem?_toArray, List.getElem?_cons_succ, List.getElem?_cons_zero]; exact rfl) rfl) rfl (fun w' hS hV K hK => ?_) ?_
    · have e0 : x 0 = (.slice G m cg) := hV 0 (by decide)
      have e1 : x 1 = (.int .i64 (m)) := hV 1 (by decide)
      have e2 : x 2 = (.bool false) := hV 2 (by decide)
      have e3 : x 3 = (.bool false) := hV 3 (by decide)
      have e8 : x 8 = undef := hV 8 (by decide)
      obtain ⟨q0, q1⟩ := hS.1.two
      go_simp
      exact hK.out _ _ _ rfl rfl rfl (Below.refl _ _)
    simp only [List.setIfInBounds_toArray, List.set_cons_zero, List.set_cons_succ]
    refine obs_step (Eq.trans (by simp only [List.getElem?_toArray, List.getElem?_cons_succ, List.getElem?_cons_zero]; exact rfl) rfl) rfl (fun w' hS hV K hK => ?_) ?_
    · have e0 : x 0 = (.slice G m cg) := hV 0 (by decide)
      have e1 : x 1 = (.int .i64 (m)) := hV 1 (by decide)
      have e2 : x 2 = (.bool false) := hV 2 (by decide)
      have e3 : x 3 = (.bool false) := hV 3 (by decide)
      have e8 : x 8 = undef := hV 8 (by decide)
      have e9 : x 9 = undef := hV 9 (by decide)
      obtain ⟨q0, q1⟩ := hS.1.two
      go_simp
      exact hK.out _ _ _ rfl rfl rfl (Below.refl _ _)
    simp only [List.setIfInBounds_toArray, List.set_cons_zero, List.set_cons_succ]
    refine obs_step (Eq.trans (by simp only [List.getElem?_toArray, List.getElem?_cons_succ, List.getElem?_cons_zero]; exact rfl) rfl) rfl (fun w' hS hV K hK => ?_) ?_
    · have e0 : x 0 = (.slice G m cg) := hV 0 (by decide)
      have e1 : x 1 = (.int .i64 (m)) := hV 1 (by decide)
      have e2 : x 2 = (.bool false) := hV 2 (by decide)
      have e3 : x 3 = (.bool false) := hV 3 (by decide)
      have e4 : x 4 = undef := hV 4 (by decide)
      have e5 : x 5 = undef := hV 5 (by decide)
      have e6 : x 6 = undef := hV 6 (by decide)
      have e7 : x 7 = undef := hV 7 (by decide)
      have e8 : x 8 = undef := hV 8 (by decide)
      have e9 : x 9 = undef := hV 9 (by decide)
      have e10 : x 10 = undef := hV 10 (by decide)
      obtain ⟨q0, q1⟩ := hS.1.two
      go_simp
      exact hK.out _ _ _ rfl rfl rfl (Below.refl _ _)
    simp only [List.setIfInBounds_toArray, List.set_cons_zero, List.set_cons_succ]
    refine obs_step (Eq.trans (by simp only [List.getElem?_toArray, List.getElem?_cons_succ, List.getElem?_cons_zero]; exact rfl) rfl) rfl (fun w' hS hV K hK => ?_) ?_
    · have e0 : x 0 = (.slice G m cg) := hV 0 (by decide)
      have e1 : x 1 = (.int .i64 (m)) := hV 1 (by decide)
      have e2 : x 2 = (.bool false) := hV 2 (by decide)
      have e3 : x 3 = (.bool false) := hV 3 (by decide)
      have e4 : x 4 = undef := hV 4 (by decide)
      have e5 : x 5 = undef := hV 5 (by decide)
      have e6 : x 6 = undef := hV 6 (by decide)
      have e7 : x 7 = undef := hV 7 (by decide)
      have e8 : x 8 = undef := hV 8 (by decide)
      have e9 : x 9 = undef := hV 9 (by decide)
      have e10 : x 10 = undef := hV 10 (by decide)
      have e11 : x 11 = undef := hV 11 (by decide)
      obtain ⟨q0, q1⟩ := hS.1.two
      go_simp
      exact hK.out _ _ _ rfl rfl rfl (Below.refl _ _)
    simp only [List.setIfInBounds_toArray, List.set_cons_zero, List.set_cons_succ]
    refine obs_step (Eq.trans (by simp only [List.getElem?_toArray, List.getElem?_cons_succ, List.getElem?_cons_zero]; exact rfl) rfl) rfl (fun w' hS hV K hK => ?_) ?_
    · have e0 : x 0 = (.slice G m cg) := hV 0 (by decide)
      have e1 : x 1 = (.int .i64 (m)) := hV 1 (by decide)
      have e2 : x 2 = (.bool false) := hV 2 (by decide)
      have e3 : x 3 = (.bool false) := hV 3 (by decide)
      have e4 : x 4 = undef := hV 4 (by decide)
      have e5 : x 5 = undef := hV 5 (by decide)
      have e6 : x 6 = undef := hV 6 (by decide)
      have e7 : x 7 = undef := hV 7 (by decide)
      have e8 : x 8 = undef := hV 8 (by decide)
      have e9 : x 9 = undef := hV 9 (by decide)
      have e10 : x 10 = undef := hV 10 (by decide)
      have e11 : x 11 = undef := hV 11 (by decide)
      have e12 : x 12 = (.bool false) := hV 12 (by decide)
      obtain ⟨q0, q1⟩ := hS.1.two
      go_simp
      exact hK.out _ _ _ rfl rfl rfl (Below.refl _ _)
    simp only [List.setIfInBounds_toArray, List.set_cons_zero, List.set_cons_succ]
    refine fun w' hS hV => ?_
    have e0 : x 0 = (.slice G m cg) := hV 0 (by decide)
    have e1 : x 1 = (.int .i64 (m)) := hV 1 (by decide)
    have e2 : x 2 = (.bool false) := hV 2 (by decide)
    have e3 : x 3 = (.bool false) := hV 3 (by decide)
    have e4 : x 4 = undef := hV 4 (by decide)
    have e5 : x 5 = undef := hV 5 (by decide)
    have e6 : x 6 = undef := hV 6 (by decide)
    have e7 : x 7 = undef := hV 7 (by decide)
    have e8 : x 8 = undef := hV 8 (by decide)
    have e9 : x 9 = undef := hV 9 (by decide)
    have e10 : x 10 = undef := hV 10 (by decide)
    have e11 : x 11 = undef := hV 11 (by decide)
    have e12 : x 12 = (.bool false) := hV 12 (by decide)
    have e13 : x 13 = (.bool false) := hV 13 (by decide)
    simp only [e0, e1, e2, e3, e4, e5, e6, e7, e8, e9, e10, e11, e12, e13]
    clear e0 e1 e2 e3 e4 e5 e6 e7 e8 e9 e10 e11 e12 e13
    refine wpAny_done (by kernel_rfl) ?_ _
    go_wp2
    go_ret
    exact ⟨ret_bool HZ.out.symm, hS.2⟩
set_option maxHeartbeats 3200000 in
set_option maxRecDepth 8000 in
theorem l06Is_any (P : Int) (A : Option Addr) (n c : Nat) (sq : List Int) (X : Option Addr) (cx : Nat) (xs : List Int) (w : World) (HP : isP P = true) (hn : n ≤ 6) (h0 : 0 < n) (ha : Rd w A n (ints sq)) (hs : NumsL P sq) (hx : Rd w X (pw n) (ints xs)) (hxs : NumsL P xs) :
    Calls Tryz.prog 239 #[.agg #[.int .i64 P, .slice A n c], .slice X (pw n) cx] w fun e w' => e = .returned (.bool (isBl P sq n xs)) ∧ Below w.heap.size w w' := by
  obtain ⟨hp3, hp2⟩ := isP_ge HP
  have hp : 2 ≤ P := by omega
  have hpn := pw_pos n
  have hpw : pw n ≤ 64 := pw_le hn
  have hB0 : Below w.heap.size w (w.alloc (.cells #[.int .i64 P, .slice A n c] 26)) := (Below.refl _ _).alloc (Nat.le_refl _) _
  have k0 : Blk (w.alloc (.cells #[.int .i64 P, .slice A n c] 26)) w.heap.size 26 #[.int .i64 P, .slice A n c] := Blk.new _ _ _
  have hgl := gradesL_len xs
  have hsl := subL_len HP sq n xs
  have hsub := fun w' (hb : Below w.heap.size w w') => l06Subspace_any P A n c sq X cx xs w' HP hn h0 (ha.below hb) hs (hx.below hb) hxs
  have HSUB := Lib.hid hsub
  clear hsub
  obtain ⟨q0, q1⟩ := k0.two
  go_enter Tryz.func239, Tryz.ntmps239
  go_wp2_with fail
  refine (l04Grades_any P A n c X cx xs _ hn (hx.below hB0)).mono ?_
  rintro e w1 ⟨G, cg, rfl, hG⟩
  have k1 := k0.below hG.b k0.lt
  have hB1 := hB0.trans (hG.b.mono hB0.size)
  have HGL : Hid ((isBl P sq n xs) = (decide ((gradesL xs).length = 1) && decide ((((subL P sq n xs).length : Nat) : Int) = (gradesL xs).getD 0 0))) := Lib.hid rfl
  have hgr := hG.rd
  obtain ⟨L, hL⟩ : ∃ L, L = gradesL xs := ⟨_, rfl⟩
  rw [← hL] at hgr hgl HGL ⊢
  obtain ⟨q, hq⟩ : ∃ q, q = (subL P sq n xs).length := ⟨_, rfl⟩
  have HQ := Lib.hid hq
  rw [← hq] at HGL hsl
  obtain ⟨m, hm⟩ : ∃ m, m = L.length := ⟨_, rfl⟩
  rw [← hm] at hgr hgl HGL ⊢
  clear k0 hB0 q0 q1 hG hL hq
  have HM := Lib.hid hm
  by_cases h1 : m = 1
  · obtain ⟨gg, og, rfl, hg0, hcg⟩ := hgr.int (show 0 < m by omega)
    have HG0 : Hid (L.getD 0 0 = L[0]) := Lib.hid (getD_of_lt 0 hg0)
    rw [Nat.add_zero] at hcg
    obtain ⟨gv, hgv⟩ : ∃ v, v = L[0] := ⟨_, rfl⟩
    rw [← hgv] at hcg HG0
    clear hgv hg0 hgr hm
    have HZ0 : Hid (isBl P sq n xs = (((q : Nat) : Int) == gv)) := Lib.hid (by rw [HGL.out, HG0.out, h1, Bool.eq_iff_iff]; simp)
    cases hz : (((q : Nat) : Int) == gv)
    all_goals
      have HZ := Lib.hid (HZ0.out.trans hz)
      subst h1
    · go_wp2
      refine wp_obs 14 [[], [0], [0, 1], [0, 1, 2], [0, 1, 2, 3], [0, 1, 2, 3], [0, 1, 2, 3, 4, 5], [0, 1, 2, 3, 4, 5, 6], [0, 1, 2, 3], [0, 1, 2, 3, 8], [0, 1, 2, 3, 8, 9], [0, 1, 2, 3, 4, 5, 6, 7, 8, 9, 10], [0, 1, 2, 3, 4, 5, 6, 7, 8, 9, 10, 11], [0, 1, 2, 3, 4, 5, 6, 7, 8, 9, 10, 11, 12]] [VIs (.slice (some ⟨gg, og, none⟩) 1 cg), VIs (.int .i64 ((1 : Nat))), VIs (.bool true), VIs (.bool true), VIs (.agg #[.int .i64 P, .slice A n c]), VIs (.slice X (pw n) cx), VMat w q (subL P sq n xs), VIs (.int .i64 (q)), VIs (.slice (some ⟨gg, og, none⟩) 1 cg), VIs (.pointer (some ⟨gg, og, none⟩)), VIs (.int .i64 (gv)), VIs (.bool false), VIs (.bool false), VIs (.bool false)] (fun w' => w'.cell? ⟨gg, og, none⟩ = some (.int .i64 gv) ∧ Blk w' w.heap.size 26 #[.int .i64 P, .slice A n c] ∧ Below w.heap.size w w') (by kernel_rfl) (by kernel_rfl) (fun _ _ h hb => ⟨(hb.cell (World.block_lt_of_cell? _ _ h.1)).trans h.1, h.2.1.below hb h.2.1.lt, h.2.2.trans (hb.mono h.2.2.size)⟩) (⟨hcg, k1.drew, hB1.drew⟩) (fun x => ?_)
      refine obs_step (Eq.trans (by simp only [List.getElem?_toArray, List.getElem?_cons_zero]; exact rfl) rfl) rfl (fun w' hS hV K hK => ?_) ?_
      · have q2 := hS.1; obtain ⟨q0, q1⟩ := hS.2.1.two
        go_simp
        exact hK.out _ _ _ rfl rfl rfl (Below.refl _ _)
      simp only [List.setIfInBounds_toArray, List.set_cons_zero, List.set_cons_succ]
      refine obs_step (Eq.trans (by simp only [List.getElem?_toArray, List.getElem?_cons_succ, List.getElem?_cons_zero]; exact rfl) rfl) rfl (fun w' hS hV K hK => ?_) ?_
      · have e0 : x 0 = (.slice (some ⟨gg, og, none⟩) 1 cg) := hV 0 (by decide)
        have q2 := hS.1; obtain ⟨q0, q1⟩ := hS.2.1.two
        go_simp
        exact hK.out _ _ _ rfl rfl rfl (Below.refl _ _)
      simp only [List.setIfInBounds_toArray, List.set_cons_zero, List.set_cons_succ]
      refine obs_step (Eq.trans (by simp only [List.getElem?_toArray, List.getElem?_cons_succ, List.getElem?_cons_zero]; exact rfl) rfl) rfl (fun w' hS hV K hK => ?_) ?_
      · have e0 : x 0 = (.slice (some ⟨gg, og, none⟩) 1 cg) := hV 0 (by decide)
        have e1 : x 1 = (.int .i64 ((1 : Nat))) := hV 1 (by decide)
        have q2 := hS.1; obtain ⟨q0, q1⟩ := hS.2.1.two
        go_simp
        exact hK.out _ _ _ rfl rfl rfl (Below.refl _ _)
      simp only [List.setIfInBounds_toArray, List.set_cons_zero, List.set_cons_succ]
      refine obs_step (Eq.trans (by simp only [List.getElem?_toArray, List.getElem?_cons_succ, List.getElem?_cons_zero]; exact rfl) rfl) rfl (fun w' hS hV K hK => ?_) ?_
      · have e0 : x 0 = (.slice (some ⟨gg, og, none⟩) 1 cg) := hV 0 (by decide)
        have e1 : x 1 = (.int .i64 ((1 : Nat))) := hV 1 (by decide)
        have e2 : x 2 = (.bool true) := hV 2 (by decide)
        have q2 := hS.1; obtain ⟨q0, q1⟩ := hS.2.1.two
        go_simp
        exact hK.out _ _ _ rfl rfl rfl (Below.refl _ _)
      simp only [List.setIfInBounds_toArray, List.set_cons_zero, List.set_cons_succ]
      refine obs_step (Eq.trans (by simp only [List.getElem?_toArray, List.getElem?_cons_succ, List.getElem?_cons_zero]; exact rfl) rfl) rfl (fun w' hS hV K hK => ?_) ?_
      · have e0 : x 0 = (.slice (some ⟨gg, og, none⟩) 1 cg) := hV 0 (by decide)
        have e1 : x 1 = (.int .i64 ((1 : Nat))) := hV 1 (by decide)
        have e2 : x 2 = (.bool true) := hV 2 (by decide)
        have e3 : x 3 = (.bool true) := hV 3 (by decide)
        have q2 := hS.1; obtain ⟨q0, q1⟩ := hS.2.1.two
        go_simp
        exact hK.out _ _ _ rfl rfl rfl (Below.refl _ _)
      simp only [List.setIfInBounds_toArray, List.set_cons_zero, List.set_cons_succ]
      refine obs_step (Eq.trans (by simp only [List.getElem?_toArray, List.getElem?_cons_succ, List.getElem?_cons_zero]; exact rfl) rfl) rfl (fun w' hS hV K hK => ?_) ?_
      · have e0 : x 0 = (.slice (some ⟨gg, og, none⟩) 1 cg) := hV 0 (by decide)
        have e1 : x 1 = (.int .i64 ((1 : Nat))) := hV 1 (by decide)
        have e2 : x 2 = (.bool true) := hV 2 (by decide)
        have e3 : x 3 = (.bool true) := hV 3 (by decide)
        have q2 := hS.1; obtain ⟨q0, q1⟩ := hS.2.1.two
        go_simp
        exact hK.out _ _ _ rfl rfl rfl (Below.refl _ _)
      simp only [List.setIfInBounds_toArray, List.set_cons_zero, List.set_cons_succ]
      refine obs_step (Eq.trans (by simp only [List.getElem?_toArray, List.getElem?_cons_succ, List.getElem?_cons_zero]; exact rfl) rfl) rfl (fun w' hS hV K hK => ?_) ?_
      · have e0 : x 0 = (.slice (some ⟨gg, og, none⟩) 1 cg) := hV 0 (by decide)
        have e1 : x 1 = (.int .i64 ((1 : Nat))) := hV 1 (by decide)
        have e2 : x 2 = (.bool true) := hV 2 (by decide)
        have e3 : x 3 = (.bool true) := hV 3 (by decide)
        have e4 : x 4 = (.agg #[.int .i64 P, .slice A n c]) := hV 4 (by decide)
        have e5 : x 5 = (.slice X (pw n) cx) := hV 5 (by decide)
        have q2 := hS.1; obtain ⟨q0, q1⟩ := hS.2.1.two
        go_simp
        refine (HSUB.out _ hS.2.2).mono ?_
        rw [← HQ.out]
        rintro e v1 ⟨A2, c2, rfl, hM⟩
        exact hK.out _ _ _ rfl rfl ⟨_, _, rfl, hM.after hS.2.2⟩ hM.b
      simp only [List.setIfInBounds_toArray, List.set_cons_zero, List.set_cons_succ]
      refine obs_step (Eq.trans (by simp only [List.getElem?_toArray, List.getElem?_cons_succ, List.getElem?_cons_zero]; exact rfl) rfl) rfl (fun w' hS hV K hK => ?_) ?_
      · have e0 : x 0 = (.slice (some ⟨gg, og, none⟩) 1 cg) := hV 0 (by decide)
        have e1 : x 1 = (.int .i64 ((1 : Nat))) := hV 1 (by decide)
        have e2 : x 2 = (.bool true) := hV 2 (by decide)
        have e3 : x 3 = (.bool true) := hV 3 (by decide)
        have e4 : x 4 = (.agg #[.int .i64 P, .slice A n c]) := hV 4 (by decide)
        have e5 : x 5 = (.slice X (pw n) cx) := hV 5 (by decide)
        obtain ⟨A6, c6, e6, h6⟩ := hV 6 (by decide)
        have q2 := hS.1; obtain ⟨q0, q1⟩ := hS.2.1.two
        go_simp
        exact hK.out _ _ _ rfl rfl rfl (Below.refl _ _)
      simp only [List.setIfInBounds_toArray, List.set_cons_zero, List.set_cons_succ]
      refine obs_step (Eq.trans (by simp only [List.getElem?_toArray, List.getElem?_cons_succ, List.getElem?_cons_zero]; exact rfl) rfl) rfl (fun w' hS hV K hK => ?_) ?_
      · have e0 : x 0 = (.slice (some ⟨gg, og, none⟩) 1 cg) := hV 0 (by decide)
        have e1 : x 1 = (.int .i64 ((1 : Nat))) := hV 1 (by decide)
        have e2 : x 2 = (.bool true) := hV 2 (by decide)
        have e3 : x 3 = (.bool true) := hV 3 (by decide)
        have q2 := hS.1; obtain ⟨q0, q1⟩ := hS.2.1.two
        go_simp
        exact hK.out _ _ _ rfl rfl rfl (Below.refl _ _)
      simp only [List.setIfInBounds_toArray, List.set_cons_zero, List.set_cons_succ]
      refine obs_step (Eq.trans (by simp only [List.getElem?_toArray, List.getElem?_cons_succ, List.getElem?_cons_zero]; exact rfl) rfl) rfl (fun w' hS hV K hK => ?_) ?_
      · have e0 : x 0 = (.slice (some ⟨gg, og, none⟩) 1 cg) := hV 0 (by decide)
        have e1 : x 1 = (.int .i64 ((1 : Nat))) := hV 1 (by decide)
        have e2 : x 2 = (.bool true) := hV 2 (by decide)
        have e3 : x 3 = (.bool true) := hV 3 (by decide)
        have e8 : x 8 = (.slice (some ⟨gg, og, none⟩) 1 cg) := hV 8 (by decide)
        have q2 := hS.1; obtain ⟨q0, q1⟩ := hS.2.1.two
        go_simp
        exact hK.out _ _ _ rfl rfl rfl (Below.refl _ _)
      simp only [List.setIfInBounds_toArray, List.set_cons_zero, List.set_cons_succ]
      refine obs_step (Eq.trans (by simp only [List.getElem?_toArray, List.getElem?_cons_succ, List.getElem?_cons_zero]; exact rfl) rfl) rfl (fun w' hS hV K hK => ?_) ?_
      · have e0 : x 0 = (.slice (some ⟨gg, og, none⟩) 1 cg) := hV 0 (by decide)
        have e1 : x 1 = (.int .i64 ((1 : Nat))) := hV 1 (by decide)
        have e2 : x 2 = (.bool true) := hV 2 (by decide)
        have e3 : x 3 = (.bool true) := hV 3 (by decide)
        have e8 : x 8 = (.slice (some ⟨gg, og, none⟩) 1 cg) := hV 8 (by decide)
        have e9 : x 9 = (.pointer (some ⟨gg, og, none⟩)) := hV 9 (by decide)
        have q2 := hS.1; obtain ⟨q0, q1⟩ := hS.2.1.two
        go_simp
        exact hK.out _ _ _ rfl rfl rfl (Below.refl _ _)
      simp only [List.setIfInBounds_toArray, List.set_cons_zero, List.set_cons_succ]
      refine obs_step (Eq.trans (by simp only [List.getElem?_toArray, List.getElem?_cons_succ, List.getElem?_cons_zero]; exact rfl) rfl) rfl (fun w' hS hV K hK => ?_) ?_
      · have e0 : x 0 = (.slice (some ⟨gg, og, none⟩) 1 cg) := hV 0 (by decide)
        have e1 : x 1 = (.int .i64 ((1 : Nat))) := hV 1 (by decide)
        have e2 : x 2 = (.bool true) := hV 2 (by decide)
        have e3 : x 3 = (.bool true) := hV 3 (by decide)
        have e4 : x 4 = (.agg #[.int .i64 P, .slice A n c]) := hV 4 (by decide)
        have e5 : x 5 = (.slice X (pw n) cx) := hV 5 (by decide)
        obtain ⟨A6, c6, e6, h6⟩ := hV 6 (by decide)
        have e7 : x 7 = (.int .i64 (q)) := hV 7 (by decide)
        have e8 : x 8 = (.slice (some ⟨gg, og, none⟩) 1 cg) := hV 8 (by decide)
        have e9 : x 9 = (.pointer (some ⟨gg, og, none⟩)) := hV 9 (by decide)
        have e10 : x 10 = (.int .i64 (gv)) := hV 10 (by decide)
        have q2 := hS.1; obtain ⟨q0, q1⟩ := hS.2.1.two
        go_simp
        exact hK.out _ _ _ rfl rfl rfl (Below.refl _ _)
      simp only [List.setIfInBounds_toArray, List.set_cons_zero, List.set_cons_succ]
      refine obs_step (Eq.trans (by simp only [List.getElem?_toArray, List.getElem?_cons_succ, List.getElem?_cons_zero]; exact rfl) rfl) rfl (fun w' hS hV K hK => ?_) ?_
      · have e0 : x 0 = (.slice (some ⟨gg, og, none⟩) 1 cg) := hV 0 (by decide)
        have e1 : x 1 = (.int .i64 ((1 : Nat))) := hV 1 (by decide)
        have e2 : x 2 = (.bool true) := hV 2 (by decide)
        have e3 : x 3 = (.bool true) := hV 3 (by decide)
        have e4 : x 4 = (.agg #[.int .i64 P, .slice A n c]) := hV 4 (by decide)
        have e5 : x 5 = (.slice X (pw n) cx) := hV 5 (by decide)
        obtain ⟨A6, c6, e6, h6⟩ := hV 6 (by decide)
        have e7 : x 7 = (.int .i64 (q)) := hV 7 (by decide)
        have e8 : x 8 = (.slice (some ⟨gg, og, none⟩) 1 cg) := hV 8 (by decide)
        have e9 : x 9 = (.pointer (some ⟨gg, og, none⟩)) := hV 9 (by decide)
        have e10 : x 10 = (.int .i64 (gv)) := hV 10 (by decide)
        have e11 : x 11 = (.bool false) := hV 11 (by decide)
        have q2 := hS.1; obtain ⟨q0, q1⟩ := hS.2.1.two
        go_simp
        exact hK.out _ _ _ rfl rfl rfl (Below.refl _ _)
      simp only [List.setIfInBounds_toArray, List.set_cons_zero, List.set_cons_succ]
      refine obs_step (Eq.trans (by simp only [List.getElem?_toArray, List.getElem?_cons_succ, List.getElem?_cons_zero]; exact rfl) rfl) rfl (fun w' hS hV K hK => ?_) ?_
      · have e0 : x 0 = (.slice (some ⟨gg, og, none⟩) 1 cg) := hV 0 (by decide)
        have e1 : x 1 = (.int .i64 ((1 : Nat))) := hV 1 (by decide)
        have e2 : x 2 = (.bool true) := hV 2 (by decide)
        have e3 : x 3 = (.bool true) := hV 3 (by decide)
        have e4 : x 4 = (.agg #[.int .i64 P, .slice A n c]) := hV 4 (by decide)
        have e5 : x 5 = (.slice X (pw n) cx) := hV 5 (by decide)
        obtain ⟨A6, c6, e6, h6⟩ := hV 6 (by decide)
        have e7 : x 7 = (.int .i64 (q)) := hV 7 (by decide)
        have e8 : x 8 = (.slice (some ⟨gg, og, none⟩) 1 cg) := hV 8 (by decide)
        have e9 : x 9 = (.pointer (some ⟨gg, og, none⟩)) := hV 9 (by decide)
        have e10 : x 10 = (.int .i64 (gv)) := hV 10 (by decide)
        have e11 : x 11 = (.bool false) := hV 11 (by decide)
        have e12 : x 12 = (.bool false) := hV 12 (by decide)
        have q2 := hS.1; obtain ⟨q0, q1⟩ := hS.2.1.two
        go_simp
        exact hK.out _ _ _ rfl rfl rfl (Below.refl _ _)
      simp only [List.setIfInBounds_toArray, List.set_cons_zero, List.set_cons_succ]
      refine fun w' hS hV => ?_
      have e0 : x 0 = (.slice (some ⟨gg, og, none⟩) 1 cg) := hV 0 (by decide)
      have e1 : x 1 = (.int .i64 ((1 : Nat))) := hV 1 (by decide)
      have e2 : x 2 = (.bool true) := hV 2 (by decide)
      have e3 : x 3 = (.bool true) := hV 3 (by decide)
      have e4 : x 4 = (.agg #[.int .i64 P, .slice A n c]) := hV 4 (by decide)
      have e5 : x 5 = (.slice X (pw n) cx) := hV 5 (by decide)
      obtain ⟨A6, c6, e6, h6⟩ := hV 6 (by decide)
      have e7 : x 7 = (.int .i64 (q)) := hV 7 (by decide)
      have e8 : x 8 = (.slice (some ⟨gg, og, none⟩) 1 cg) := hV 8 (by decide)
      have e9 : x 9 = (.pointer (some ⟨gg, og, none⟩)) := hV 9 (by decide)
      have e10 : x 10 = (.int .i64 (gv)) := hV 10 (by decide)
      have e11 : x 11 = (.bool false) := hV 11 (by decide)
      have e12 : x 12 = (.bool false) := hV 12 (by decide)
      have e13 : x 13 = (.bool false) := hV 13 (by decide)
      simp only [e0, e1, e2, e3, e4, e5, e6, e7, e8, e9, e10, e11, e12, e13]
      clear e0 e1 e2 e3 e4 e5 e6 e7 e8 e9 e10 e11 e12 e13
      refine wpAny_done (by kernel_rfl) ?_ _
      go_wp2
      go_ret
      exact ⟨ret_bool HZ.out.symm, hS.2.2⟩
    · go_wp2
      refine wp_obs 14 [[], [0], [0, 1], [0, 1, 2], [0, 1, 2, 3], [0, 1, 2, 3], [0, 1, 2, 3, 4, 5], [0, 1, 2, 3, 4, 5, 6], [0, 1, 2, 3], [0, 1, 2, 3, 8], [0, 1, 2, 3, 8, 9], [0, 1, 2, 3, 4, 5, 6, 7, 8, 9, 10], [0, 1, 2, 3, 4, 5, 6, 7, 8, 9, 10, 11], [0, 1, 2, 3, 4, 5, 6, 7, 8, 9, 10, 11, 12]] [VIs (.slice (some ⟨gg, og, none⟩) 1 cg), VIs (.int .i64 ((1 : Nat))), VIs (.bool true), VIs (.bool true), VIs (.agg #[.int .i64 P, .slice A n c]), VIs (.slice X (pw n) cx), VMat w q (subL P sq n xs), VIs (.int .i64 (q)), VIs (.slice (some ⟨gg, og, none⟩) 1 cg), VIs (.pointer (some ⟨gg, og, none⟩)), VIs (.int .i64 (gv)), VIs (.bool true), VIs (.bool true), VIs (.bool true)] (fun w' => w'.cell? ⟨gg, og, none⟩ = some (.int .i64 gv) ∧ Blk w' w.heap.size 26 #[.int .i64 P, .slice A n c] ∧ Below w.heap.size w w') (by kernel_rfl) (by kernel_rfl) (fun _ _ h hb => ⟨(hb.cell (World.block_lt_of_cell? _ _ h.1)).trans h.1, h.2.1.below hb h.2.1.lt, h.2.2.trans (hb.mono h.2.2.size)⟩) (⟨hcg, k1.drew, hB1.drew⟩) (fun x => ?_)
      refine obs_step (Eq.trans (by simp only [List.getElem?_toArray, List.getElem?_cons_zero]; exact rfl) rfl) rfl (fun w' hS hV K hK => ?_) ?_
      · have q2 := hS.1; obtain ⟨q0, q1⟩ := hS.2.1.two
        go_simp
        exact hK.out _ _ _ rfl rfl rfl (Below.refl _ _)
      simp only [List.setIfInBounds_toArray, List.set_cons_zero, List.set_cons_succ]
      refine obs_step (Eq.trans (by simp only [List.getElem?_toArray, List.getElem?_cons_succ, List.getElem?_cons_zero]; exact rfl) rfl) rfl (fun w' hS hV K hK => ?_) ?_
      · have e0 : x 0 = (.slice (some ⟨gg, og, none⟩) 1 cg) := hV 0 (by decide)
        have q2 := hS.1; obtain ⟨q0, q1⟩ := hS.2.1.two
        go_simp
        exact hK.out _ _ _ rfl rfl rfl (Below.refl _ _)
      simp only [List.setIfInBounds_toArray, List.set_cons_zero, List.set_cons_succ]
      refine obs_step (Eq.trans (by simp only [List.getElem?_toArray, List.getElem?_cons_succ, List.getElem?_cons_zero]; exact rfl) rfl) rfl (fun w' hS hV K hK => ?_) ?_
      · have e0 : x 0 = (.slice (some ⟨gg, og, none⟩) 1 cg) := hV 0 (by decide)
        have e1 : x 1 = (.int .i64 ((1 : Nat))) := hV 1 (by decide)
        have q2 := hS.1; obtain ⟨q0, q1⟩ := hS.2.1.two
        go_simp
        exact hK.out _ _ _ rfl rfl rfl (Below.refl _ _)
      simp only [List.setIfInBounds_toArray, List.set_cons_zero, List.set_cons_succ]
      refine obs_step (Eq.trans (by simp only [List.getElem?_toArray, List.getElem?_cons_succ, List.getElem?_cons_zero]; exact rfl) rfl) rfl (fun w' hS hV K hK => ?_) ?_
      · have e0 : x 0 = (.slice (some ⟨gg, og, none⟩) 1 cg) := hV 0 (by decide)
        have e1 : x 1 = (.int .i64 ((1 : Nat))) := hV 1 (by decide)
        have e2 : x 2 = (.bool true) := hV 2 (by decide)
        have q2 := hS.1; obtain ⟨q0, q1⟩ := hS.2.1.two
        go_simp
        exact hK.out _ _ _ rfl rfl rfl (Below.refl _ _)
      simp only [List.setIfInBounds_toArray, List.set_cons_zero, List.set_cons_succ]
      refine obs_step (Eq.trans (by simp only [List.getElem?_toArray, List.getElem?_cons_succ, List.getElem?_cons_zero]; exact rfl) rfl) rfl (fun w' hS hV K hK => ?_) ?_
      · have e0 : x 0 = (.slice (some ⟨gg, og, none⟩) 1 cg) := hV 0 (by decide)
        have e1 : x 1 = (.int .i64 ((1 : Nat))) := hV 1 (by decide)
        have e2 : x 2 = (.bool true) := hV 2 (by decide)
        have e3 : x 3 = (.bool true) := hV 3 (by decide)
        have q2 := hS.1; obtain ⟨q0, q1⟩ := hS.2.1.two
        go_simp
        exact hK.out _ _ _ rfl rfl rfl (Below.refl _ _)
      simp only [List.setIfInBounds_toArray, List.set_cons_zero, List.set_cons_succ]
      refine obs_step (Eq.trans (by simp only [List.getElem?_toArray, List.getElem?_cons_succ, List.getElem?_cons_zero]; exact rfl) rfl) rfl (fun w' hS hV K hK => ?_) ?_
      · have e0 : x 0 = (.slice (some ⟨gg, og, none⟩) 1 cg) := hV 0 (by decide)
        have e1 : x 1 = (.int .i64 ((1 : Nat))) := hV 1 (by decide)
        have e2 : x 2 = (.bool true) := hV 2 (by decide)
        have e3 : x 3 = (.bool true) := hV 3 (by decide)
        have q2 := hS.1; obtain ⟨q0, q1⟩ := hS.2.1.two
        go_simp
        exact hK.out _ _ _ rfl rfl rfl (Below.refl _ _)
      simp only [List.setIfInBounds_toArray, List.set_cons_zero, List.set_cons_succ]
      refine obs_step (Eq.trans (by simp only [List.getElem?_toArray, List.getElem?_cons_succ, List.getElem?_cons_zero]; exact rfl) rfl) rfl (fun w' hS hV K hK => ?_) ?_
      · have e0 : x 0 = (.slice (some ⟨gg, og, none⟩) 1 cg) := hV 0 (by decide)
        have e1 : x 1 = (.int .i64 ((1 : Nat))) := hV 1 (by decide)
        have e2 : x 2 = (.bool true) := hV 2 (by decide)
        have e3 : x 3 = (.bool true) := hV 3 (by decide)
        have e4 : x 4 = (.agg #[.int .i64 P, .slice A n c]) := hV 4 (by decide)
        have e5 : x 5 = (.slice X (pw n) cx) := hV 5 (by decide)
        have q2 := hS.1; obtain ⟨q0, q1⟩ := hS.2.1.two
        go_simp
        refine (HSUB.out _ hS.2.2).mono ?_
        rw [← HQ.out]
        rintro e v1 ⟨A2, c2, rfl, hM⟩
        exact hK.out _ _ _ rfl rfl ⟨_, _, rfl, hM.after hS.2.2⟩ hM.b
      simp only [List.setIfInBounds_toArray, List.set_cons_zero, List.set_cons_succ]
      refine obs_step (Eq.trans (by simp only [List.getElem?_toArray, List.getElem?_cons_succ, List.getElem?_cons_zero]; exact rfl) rfl) rfl (fun w' hS hV K hK => ?_) ?_
      · have e0 : x 0 = (.slice (some ⟨gg, og, none⟩) 1 cg) := hV 0 (by decide)
        have e1 : x 1 = (.int .i64 ((1 : Nat))) := hV 1 (by decide)
        have e2 : x 2 = (.bool true) := hV 2 (by decide)
        have e3 : x 3 = (.bool true) := hV 3 (by decide)
        have e4 : x 4 = (.agg #[.int .i64 P, .slice A n c]) := hV 4 (by decide)
        have e5 : x 5 = (.slice X (pw n) cx) := hV 5 (by decide)
        obtain ⟨A6, c6, e6, h6⟩ := hV 6 (by decide)
        have q2 := hS.1; obtain ⟨q0, q1⟩ := hS.2.1.two
        go_simp
        exact hK.out _ _ _ rfl rfl rfl (Below.refl _ _)
      simp only [List.setIfInBounds_toArray, List.set_cons_zero, List.set_cons_succ]
      refine obs_step (Eq.trans (by simp only [List.getElem?_toArray, List.getElem?_cons_succ, List.getElem?_cons_zero]; exact rfl) rfl) rfl (fun w' hS hV K hK => ?_) ?_
      · have e0 : x 0 = (.slice (some ⟨gg, og, none⟩) 1 cg) := hV 0 (by decide)
        have e1 : x 1 = (.int .i64 ((1 : Nat))) := hV 1 (by decide)
        have e2 : x 2 = (.bool true) := hV 2 (by decide)
        have e3 : x 3 = (.bool true) := hV 3 (by decide)
        have q2 := hS.1; obtain ⟨q0, q1⟩ := hS.2.1.two
        go_simp
        exact hK.out _ _ _ rfl rfl rfl (Below.refl _ _)
      simp only [List.setIfInBounds_toArray, List.set_cons_zero, List.set_cons_succ]
      refine obs_step (Eq.trans (by simp only [List.getElem?_toArray, List.getElem?_cons_succ, List.getElem?_cons_zero]; exact rfl) rfl) rfl (fun w' hS hV K hK => ?_) ?_
      · have e0 : x 0 = (.slice (some ⟨gg, og, none⟩) 1 cg) := hV 0 (by decide)
        have e1 : x 1 = (.int .i64 ((1 : Nat))) := hV 1 (by decide)
        have e2 : x 2 = (.bool true) := hV 2 (by decide)
        have e3 : x 3 = (.bool true) := hV 3 (by decide)
        have e8 : x 8 = (.slice (some ⟨gg, og, none⟩) 1 cg) := hV 8 (by decide)
        have q2 := hS.1; obtain ⟨q0, q1⟩ := hS.2.1.two
        go_simp
        exact hK.out _ _ _ rfl rfl rfl (Below.refl _ _)
      simp only [List.setIfInBounds_toArray, List.set_cons_zero, List.set_cons_succ]
      refine obs_step (Eq.trans (by simp only [List.getElem?_toArray, List.getElem?_cons_succ, List.getElem?_cons_zero]; exact rfl) rfl) rfl (fun w' hS hV K hK => ?_) ?_
      · have e0 : x 0 = (.slice (some ⟨gg, og, none⟩) 1 cg) := hV 0 (by decide)
        have e1 : x 1 = (.int .i64 ((1 : Nat))) := hV 1 (by decide)
        have e2 : x 2 = (.bool true) := hV 2 (by decide)
        have e3 : x 3 = (.bool true) := hV 3 (by decide)
        have e8 : x 8 = (.slice (some ⟨gg, og, none⟩) 1 cg) := hV 8 (by decide)
        have e9 : x 9 = (.pointer (some ⟨gg, og, none⟩)) := hV 9 (by decide)
        have q2 := hS.1; obtain ⟨q0, q1⟩ := hS.2.1.two
        go_simp
        exact hK.out _ _ _ rfl rfl rfl (Below.refl _ _)
      simp only [List.setIfInBounds_toArray, List.set_cons_zero, List.set_cons_succ]
      refine obs_step (Eq.trans (by simp only [List.getElem?_toArray, List.getElem?_cons_succ, List.getElem?_cons_zero]; exact rfl) rfl) rfl (fun w' hS hV K hK => ?_) ?_
      · have e0 : x 0 = (.slice (some ⟨gg, og, none⟩) 1 cg) := hV 0 (by decide)
        have e1 : x 1 = (.int .i64 ((1 : Nat))) := hV 1 (by decide)
        have e2 : x 2 = (.bool true) := hV 2 (by decide)
        have e3 : x 3 = (.bool true) := hV 3 (by decide)
        have e4 : x 4 = (.agg #[.int .i64 P, .slice A n c]) := hV 4 (by decide)
        have e5 : x 5 = (.slice X (pw n) cx) := hV 5 (by decide)
        obtain ⟨A6, c6, e6, h6⟩ := hV 6 (by decide)
        have e7 : x 7 = (.int .i64 (q)) := hV 7 (by decide)
        have e8 : x 8 = (.slice (some ⟨gg, og, none⟩) 1 cg) := hV 8 (by decide)
        have e9 : x 9 = (.pointer (some ⟨gg, og, none⟩)) := hV 9 (by decide)
        have e10 : x 10 = (.int .i64 (gv)) := hV 10 (by decide)
        have q2 := hS.1; obtain ⟨q0, q1⟩ := hS.2.1.two
        go_simp
        exact hK.out _ _ _ rfl rfl rfl (Below.refl _ _)
      simp only [List.setIfInBounds_toArray, List.set_cons_zero, List.set_cons_succ]
      refine obs_step (Eq.trans (by simp only [List.getElem?_toArray, List.getElem?_cons_succ, List.getElem?_cons_zero]; exact rfl) rfl) rfl (fun w' hS hV K hK => ?_) ?_
      · have e0 : x 0 = (.slice (some ⟨gg, og, none⟩) 1 cg) := hV 0 (by decide)
        have e1 : x 1 = (.int .i64 ((1 : Nat))) := hV 1 (by decide)
        have e2 : x 2 = (.bool true) := hV 2 (by decide)
        have e3 : x 3 = (.bool true) := hV 3 (by decide)
        have e4 : x 4 = (.agg #[.int .i64 P, .slice A n c]) := hV 4 (by decide)
        have e5 : x 5 = (.slice X (pw n) cx) := hV 5 (by decide)
        obtain ⟨A6, c6, e6, h6⟩ := hV 6 (by decide)
        have e7 : x 7 = (.int .i64 (q)) := hV 7 (by decide)
        have e8 : x 8 = (.slice (some ⟨gg, og, none⟩) 1 cg) := hV 8 (by decide)
        have e9 : x 9 = (.pointer (some ⟨gg, og, none⟩)) := hV 9 (by decide)
        have e10 : x 10 = (.int .i64 (gv)) := hV 10 (by decide)
        have e11 : x 11 = (.bool true) := hV 11 (by decide)
        have q2 := hS.1; obtain ⟨q0, q1⟩ := hS.2.1.two
        go_simp
        exact hK.out _ _ _ rfl rfl rfl (Below.refl _ _)
      simp only [List.setIfInBounds_toArray, List.set_cons_zero, List.set_cons_succ]
      refine obs_step (Eq.trans (by simp only [List.getElem?_toArray, List.getElem?_cons_succ, List.getElem?_cons_zero]; exact rfl) rfl) rfl (fun w' hS hV K hK => ?_) ?_
      · have e0 : x 0 = (.slice (some ⟨gg, og, none⟩) 1 cg) := hV 0 (by decide)
        have e1 : x 1 = (.int .i64 ((1 : Nat))) := hV 1 (by decide)
        have e2 : x 2 = (.bool true) := hV 2 (by decide)
        have e3 : x 3 = (.bool true) := hV 3 (by decide)
        have e4 : x 4 = (.agg #[.int .i64 P, .slice A n c]) := hV 4 (by decide)
        have e5 : x 5 = (.slice X (pw n) cx) := hV 5 (by decide)
        obtain ⟨A6, c6, e6, h6⟩ := hV 6 (by decide)
        have e7 : x 7 = (.int .i64 (q)) := hV 7 (by decide)
        have e8 : x 8 = (.slice (some ⟨gg, og, none⟩) 1 cg) := hV 8 (by decide)
        have e9 : x 9 = (.pointer (some ⟨gg, og, none⟩)) := hV 9 (by decide)
        have e10 : x 10 = (.int .i64 (gv)) := hV 10 (by decide)
        have e11 : x 11 = (.bool true) := hV 11 (by decide)
        have e12 : x 12 = (.bool true) := hV 12 (by decide)
        have q2 := hS.1; obtain ⟨q0, q1⟩ := hS.2.1.two
        go_simp
        exact hK.out _ _ _ rfl rfl rfl (Below.refl _ _)
      simp only [List.setIfInBounds_toArray, List.set_cons_zero, List.set_cons_succ]
      refine fun w' hS hV => ?_
      have e0 : x 0 = (.slice (some ⟨gg, og, none⟩) 1 cg) := hV 0 (by decide)
      have e1 : x 1 = (.int .i64 ((1 : Nat))) := hV 1 (by decide)
      have e2 : x 2 = (.bool true) := hV 2 (by decide)
      have e3 : x 3 = (.bool true) := hV 3 (by decide)
      have e4 : x 4 = (.agg #[.int .i64 P, .slice A n c]) := hV 4 (by decide)
      have e5 : x 5 = (.slice X (pw n) cx) := hV 5 (by decide)
      obtain ⟨A6, c6, e6, h6⟩ := hV 6 (by decide)
      have e7 : x 7 = (.int .i64 (q)) := hV 7 (by decide)
      have e8 : x 8 = (.slice (some ⟨gg, og, none⟩) 1 cg) := hV 8 (by decide)
      have e9 : x 9 = (.pointer (some ⟨gg, og, none⟩)) := hV 9 (by decide)
      have e10 : x 10 = (.int .i64 (gv)) := hV 10 (by decide)
      have e11 : x 11 = (.bool true) := hV 11 (by decide)
      have e12 : x 12 = (.bool true) := hV 12 (by decide)
      have e13 : x 13 = (.bool true) := hV 13 (by decide)
      simp only [e0, e1, e2, e3, e4, e5, e6, e7, e8, e9, e10, e11, e12, e13]
      clear e0 e1 e2 e3 e4 e5 e6 e7 e8 e9 e10 e11 e12 e13
      refine wpAny_done (by kernel_rfl) ?_ _
      go_wp2
      go_ret
      exact ⟨ret_bool HZ.out.symm, hS.2.2⟩
  · have HZ : Hid (isBl P sq n xs = false) := Lib.hid (by rw [HGL.out]; simp [h1])
    have hm1 : (((m : Nat) : Int) == 1) = false := by simp; omega
    clear hgr hm
    go_wp2
    refine wp_obs 14 [[], [0], [0, 1], [0, 1, 2], [0, 1, 2, 3], [0, 1, 2, 3], [0, 1, 2, 3, 4, 5], [0, 1, 2, 3, 4, 5, 6], [0, 1, 2, 3], [0, 1, 2, 3, 8], [0, 1, 2, 3, 8, 9], [0, 1, 2, 3, 4, 5, 6, 7, 8, 9, 10], [0, 1, 2, 3, 4, 5, 6, 7, 8, 9, 10, 11], [0, 1, 2, 3, 4, 5, 6, 7, 8, 9, 10, 11, 12]] [VIs (.slice G m cg), VIs (.int .i64 (m)), VIs (.bool false), VIs (.bool false), VIs undef, VIs undef, VIs undef, VIs undef, VIs undef, VIs undef, VIs undef, VIs undef, VIs (.bool false), VIs (.bool false)] (fun w' => Blk w' w.heap.size 26 #[.int .i64 P, .slice A n c] ∧ Below w.heap.size w w') (by kernel_rfl) (by kernel_rfl) (fun _ _ h hb => ⟨h.1.below hb h.1.lt, h.2.trans (hb.mono h.2.size)⟩) (⟨k1.drew, hB1.drew⟩) (fun x => ?_)
    refine obs_step (Eq.trans (by simp only [List.getElem?_toArray, List.getElem?_cons_zero]; exact rfl) rfl) rfl (fun w' hS hV K hK => ?_) ?_
    · obtain ⟨q0, q1⟩ := hS.1.two
      go_simp
      exact hK.out _ _ _ rfl rfl rfl (Below.refl _ _)
    simp only [List.setIfInBounds_toArray, List.set_cons_zero, List.set_cons_succ]
    refine obs_step (Eq.trans (by simp only [List.getElem?_toArray, List.getElem?_cons_succ, List.getElem?_cons_zero]; exact rfl) rfl) rfl (fun w' hS hV K hK => ?_) ?_
    · have e0 : x 0 = (.slice G m cg) := hV 0 (by decide)
      obtain ⟨q0, q1⟩ := hS.1.two
      go_simp
      exact hK.out _ _ _ rfl rfl rfl (Below.refl _ _)
    simp only [List.setIfInBounds_toArray, List.set_cons_zero, List.set_cons_succ]
    refine obs_step (Eq.trans (by simp only [List.getElem?_toArray, List.getElem?_cons_succ, List.getElem?_cons_zero]; exact rfl) rfl) rfl (fun w' hS hV K hK => ?_) ?_
    · have e0 : x 0 = (.slice G m cg) := hV 0 (by decide)
      have e1 : x 1 = (.int .i64 (m)) := hV 1 (by decide)
      obtain ⟨q0, q1⟩ := hS.1.two
      go_simp
      exact hK.out _ _ _ rfl rfl rfl (Below.refl _ _)
    simp only [List.setIfInBounds_toArray, List.set_cons_zero, List.set_cons_succ]
    refine obs_step (Eq.trans (by simp only [List.getElem?_toArray, List.getElem?_cons_succ, List.getElem?_cons_zero]; exact rfl) rfl) rfl (fun w' hS hV K hK => ?_) ?_
    · have e0 : x 0 = (.slice G m cg) := hV 0 (by decide)
      have e1 : x 1 = (.int .i64 (m)) := hV 1 (by decide)
      have e2 : x 2 = (.bool false) := hV 2 (by decide)
      obtain ⟨q0, q1⟩ := hS.1.two
      go_simp
      exact hK.out _ _ _ rfl rfl rfl (Below.refl _ _)
    simp only [List.setIfInBounds_toArray, List.set_cons_zero, List.set_cons_succ]
    refine obs_step (Eq.trans (by simp only [List.getElem?_toArray, List.getElem?_cons_succ, List.getElem?_cons_zero]; exact rfl) rfl) rfl (fun w' hS hV K hK => ?_) ?_
    · have e0 : x 0 = (.slice G m cg) := hV 0 (by decide)
      have e1 : x 1 = (.int .i64 (m)) := hV 1 (by decide)
      have e2 : x 2 = (.bool false) := hV 2 (by decide)
      have e3 : x 3 = (.bool false) := hV 3 (by decide)
      obtain ⟨q0, q1⟩ := hS.1.two
      go_simp
      exact hK.out _ _ _ rfl rfl rfl (Below.refl _ _)
    simp only [List.setIfInBounds_toArray, List.set_cons_zero, List.set_cons_succ]
    refine obs_step (Eq.trans (by simp only [List.getElem?_toArray, List.getElem?_cons_succ, List.getElem?_cons_zero]; exact rfl) rfl) rfl (fun w' hS hV K hK => ?_) ?_
    · have e0 : x 0 = (.slice G m cg) := hV 0 (by decide)
      have e1 : x 1 = (.int .i64 (m)) := hV 1 (by decide)
      have e2 : x 2 = (.bool false) := hV 2 (by decide)
      have e3 : x 3 = (.bool false) := hV 3 (by decide)
      obtain ⟨q0, q1⟩ := hS.1.two
      go_simp
      exact hK.out _ _ _ rfl rfl rfl (Below.refl _ _)
    simp only [List.setIfInBounds_toArray, List.set_cons_zero, List.set_cons_succ]
    refine obs_step (Eq.trans (by simp only [List.getElem?_toArray, List.getElem?_cons_succ, List.getElem?_cons_zero]; exact rfl) rfl) rfl (fun w' hS hV K hK => ?_) ?_
    · have e0 : x 0 = (.slice G m cg) := hV 0 (by decide)
      have e1 : x 1 = (.int .i64 (m)) := hV 1 (by decide)
      have e2 : x 2 = (.bool false) := hV 2 (by decide)
      have e3 : x 3 = (.bool false) := hV 3 (by decide)
      have e4 : x 4 = undef := hV 4 (by decide)
      have e5 : x 5 = undef := hV 5 (by decide)
      obtain ⟨q0, q1⟩ := hS.1.two
      go_simp
      exact hK.out _ _ _ rfl rfl rfl (Below.refl _ _)
    simp only [List.setIfInBounds_toArray, List.set_cons_zero, List.set_cons_succ]
    refine obs_step (Eq.trans (by simp only [List.getElem?_toArray, List.getElem?_cons_succ, List.getElem?_cons_zero]; exact rfl) rfl) rfl (fun w' hS hV K hK => ?_) ?_
    · have e0 : x 0 = (.slice G m cg) := hV 0 (by decide)
      have e1 : x 1 = (.int .i64 (m)) := hV 1 (by decide)
      have e2 : x 2 = (.bool false) := hV 2 (by decide)
      have e3 : x 3 = (.bool false) := hV 3 (by decide)
      have e4 : x 4 = undef := hV 4 (by decide)
      have e5 : x 5 = undef := hV 5 (by decide)
      have e6 : x 6 = undef := hV 6 (by decide)
      obtain ⟨q0, q1⟩ := hS.1.two
      go_simp
      exact hK.out _ _ _ rfl rfl rfl (Below.refl _ _)
    simp only [List.setIfInBounds_toArray, List.set_cons_zero, List.set_cons_succ]
    refine obs_step (Eq.trans (by simp only [List.getElem?_toArray, List.getElem?_cons_succ, List.getElem?_cons_zero]; exact rfl) rfl) rfl (fun w' hS hV K hK => ?_) ?_
    · have e0 : x 0 = (.slice G m cg) := hV 0 (by decide)
      have e1 : x 1 = (.int .i64 (m)) := hV 1 (by decide)
      have e2 : x 2 = (.bool false) := hV 2 (by decide)
      have e3 : x 3 = (.bool false) := hV 3 (by decide)
      obtain ⟨q0, q1⟩ := hS.1.two
      go_simp
      exact hK.out _ _ _ rfl rfl rfl (Below.refl _ _)
    simp only [List.setIfInBounds_toArray, List.set_cons_zero, List.set_cons_succ]
    refine obs_step (Eq.trans (by simp only [List.getElem?_toArray, List.getElem?_cons_succ, List.getElem?_cons_zero]; exact rfl) rfl) rfl (fun w' hS hV K hK => ?_) ?_
    · have e0 : x 0 = (.slice G m cg) := hV 0 (by decide)
      have e1 : x 1 = (.int .i64 (m)) := hV 1 (by decide)
      have e2 : x 2 = (.bool false) := hV 2 (by decide)
      have e3 : x 3 = (.bool false) := hV 3 (by decide)
      have e8 : x 8 = undef := hV 8 (by decide)
      obtain ⟨q0, q1⟩ := hS.1.two
      go_simp
      exact hK.out _ _ _ rfl rfl rfl (Below.refl _ _)
    simp only [List.setIfInBounds_toArray, List.set_cons_zero, List.set_cons_succ]
    refine obs_step (Eq.trans (by simp only [List.getElem?_toArray, List.getElem?_cons_succ, List.getElem?_cons_zero]; exact rfl) rfl) rfl (fun w' hS hV K hK => ?_) ?_
    · have e0 : x 0 = (.slice G m cg) := hV 0 (by decide)
      have e1 : x 1 = (.int .i64 (m)) := hV 1 (by decide)
      have e2 : x 2 = (.bool false) := hV 2 (by decide)
      have e3 : x 3 = (.bool false) := hV 3 (by decide)
      have e8 : x 8 = undef := hV 8 (by decide)
      have e9 : x 9 = undef := hV 9 (by decide)
      obtain ⟨q0, q1⟩ := hS.1.two
      go_simp
      exact hK.out _ _ _ rfl rfl rfl (Below.refl _ _)
    simp only [List.setIfInBounds_toArray, List.set_cons_zero, List.set_cons_succ]
    refine obs_step (Eq.trans (by simp only [List.getElem?_toArray, List.getElem?_cons_succ, List.getElem?_cons_zero]; exact rfl) rfl) rfl (fun w' hS hV K hK => ?_) ?_
    · have e0 : x 0 = (.slice G m cg) := hV 0 (by decide)
      have e1 : x 1 = (.int .i64 (m)) := hV 1 (by decide)
      have e2 : x 2 = (.bool false) := hV 2 (by decide)
      have e3 : x 3 = (.bool false) := hV 3 (by decide)
      have e4 : x 4 = undef := hV 4 (by decide)
      have e5 : x 5 = undef := hV 5 (by decide)
      have e6 : x 6 = undef := hV 6 (by decide)
      have e7 : x 7 = undef := hV 7 (by decide)
      have e8 : x 8 = undef := hV 8 (by decide)
      have e9 : x 9 = undef := hV 9 (by decide)
      have e10 : x 10 = undef := hV 10 (by decide)
      obtain ⟨q0, q1⟩ := hS.1.two
      go_simp
      exact hK.out _ _ _ rfl rfl rfl (Below.refl _ _)
    simp only [List.setIfInBounds_toArray, List.set_cons_zero, List.set_cons_succ]
    refine obs_step (Eq.trans (by simp only [List.getElem?_toArray, List.getElem?_cons_succ, List.getElem?_cons_zero]; exact rfl) rfl) rfl (fun w' hS hV K hK => ?_) ?_
    · have e0 : x 0 = (.slice G m cg) := hV 0 (by decide)
      have e1 : x 1 = (.int .i64 (m)) := hV 1 (by decide)
      have e2 : x 2 = (.bool false) := hV 2 (by decide)
      have e3 : x 3 = (.bool false) := hV 3 (by decide)
      have e4 : x 4 = undef := hV 4 (by decide)
      have e5 : x 5 = undef := hV 5 (by decide)
      have e6 : x 6 = undef := hV 6 (by decide)
      have e7 : x 7 = undef := hV 7 (by decide)
      have e8 : x 8 = undef := hV 8 (by decide)
      have e9 : x 9 = undef := hV 9 (by decide)
      have e10 : x 10 = undef := hV 10 (by decide)
      have e11 : x 11 = undef := hV 11 (by decide)
      obtain ⟨q0, q1⟩ := hS.1.two
      go_simp
      exact hK.out _ _ _ rfl rfl rfl (Below.refl _ _)
    simp only [List.setIfInBounds_toArray, List.set_cons_zero, List.set_cons_succ]
    refine obs_step (Eq.trans (by simp only [List.getElem?_toArray, List.getElem?_cons_succ, List.getElem?_cons_zero]; exact rfl) rfl) rfl (fun w' hS hV K hK => ?_) ?_
    · have e0 : x 0 = (.slice G m cg) := hV 0 (by decide)
      have e1 : x 1 = (.int .i64 (m)) := hV 1 (by decide)
      have e2 : x 2 = (.bool false) := hV 2 (by decide)
      have e3 : x 3 = (.bool false) := hV 3 (by decide)
      have e4 : x 4 = undef := hV 4 (by decide)
      have e5 : x 5 = undef := hV 5 (by decide)
      have e6 : x 6 = undef := hV 6 (by decide)
      have e7 : x 7 = undef := hV 7 (by decide)
      have e8 : x 8 = undef := hV 8 (by decide)
      have e9 : x 9 = undef := hV 9 (by decide)
      have e10 : x 10 = undef := hV 10 (by decide)
      have e11 : x 11 = undef := hV 11 (by decide)
      have e12 : x 12 = (.bool false) := hV 12 (by decide)
      obtain ⟨q0, q1⟩ := hS.1.two
      go_simp
      exact hK.out _ _ _ rfl rfl rfl (Below.refl _ _)
    simp only [List.setIfInBounds_toArray, List.set_cons_zero, List.set_cons_succ]
    refine fun w' hS hV => ?_
    have e0 : x 0 = (.slice G m cg) := hV 0 (by decide)
    have e1 : x 1 = (.int .i64 (m)) := hV 1 (by decide)
    have e2 : x 2 = (.bool false) := hV 2 (by decide)
    have e3 : x 3 = (.bool false) := hV 3 (by decide)
    have e4 : x 4 = undef := hV 4 (by decide)
    have e5 : x 5 = undef := hV 5 (by decide)
    have e6 : x 6 = undef := hV 6 (by decide)
    have e7 : x 7 = undef := hV 7 (by decide)
    have e8 : x 8 = undef := hV 8 (by decide)
    have e9 : x 9 = undef := hV 9 (by decide)
    have e10 : x 10 = undef := hV 10 (by decide)
    have e11 : x 11 = undef := hV 11 (by decide)
    have e12 : x 12 = (.bool false) := hV 12 (by decide)
    have e13 : x 13 = (.bool false) := hV 13 (by decide)
    simp only [e0, e1, e2, e3, e4, e5, e6, e7, e8, e9, e10, e11, e12, e13]
    clear e0 e1 e2 e3 e4 e5 e6 e7 e8 e9 e10 e11 e12 e13
    refine wpAny_done (by kernel_rfl) ?_ _
    go_wp2
    go_ret
    exact ⟨ret_bool HZ.out.symm, hS.2⟩
set_option maxHeartbeats 3200000 in
set_option maxRecDepth 8000 in
theorem checkBlades_any (P : Int) (A B : Option Addr) (n c m d : Nat) (sq : List Int) (ms : List (List Int)) (w : World) (hn : n ≤ 1048576) (hm : m ≤ 1048576) (ha : Rd w A n (ints sq)) (hb : RdII w B m ms) (hms : ∀ ys ∈ ms, ys.length ≤ 1048576) :
    Calls Tryz.prog 226 #[.agg #[.int .i64 P, .slice A n c], .slice B m d] w fun e w' => e = .returned (.int .i64 (codeL P sq ms)) ∧ Below w.heap.size w w' := by
  have hB0 : Below w.heap.size w (w.alloc (.cells #[.int .i64 P, .slice A n c] 26)) := (Below.refl _ _).alloc (Nat.le_refl _) _
  have k0 : Blk (w.alloc (.cells #[.int .i64 P, .slice A n c] 26)) w.heap.size 26 #[.int .i64 P, .slice A n c] := Blk.new _ _ _
  have hcm := checkMultis_any P A B n c m d sq ms _ hn hm (ha.below hB0) (hb.below hB0) hms
  by_cases e1 : codeM P sq ms = 0
  · obtain ⟨HP, _, _, hd1, hd2, hs, hms2⟩ := codeM_spec3 e1
    have hnl := ha.lenI
    rw [hnl] at hd1 hd2
    have HNL := Lib.hid hnl
    have hml := hb.len
    rw [e1] at hcm
    have E1 := Lib.hid e1
    have HMS2 := Lib.hid hms2
    have HS := Lib.hid hs
    have HPP := Lib.hid HP
    have HML := Lib.hid hml
    clear e1 hms2 hms hs hml hnl HP
    go_enter Tryz.func226, Tryz.ntmps226
    go_wp2_with fail
    refine hcm.mono ?_
    rintro e w1 ⟨rfl, hb1⟩
    have hB1 := hB0.trans (hb1.mono (by simp))
    have k1 := k0.below hb1 k0.lt
    clear k0 hB0 hb1
    go_wp2
    go_loopw [7, 16] (fun _ i wr => ∃ k : Nat, k ≤ m ∧ i = .int .i64 k ∧ Hid ((ms.take k).all (isBl P sq n) = true) ∧ Below w.heap.size w wr ∧ Blk wr w.heap.size 26 #[.int .i64 P, .slice A n c]) (fun _ i _ => m - (intOf i).toNat)
    case atStart => exact ⟨0, by omega, rfl, Lib.hid (by simp), hB1, k1⟩
    case round =>
      obtain ⟨k, hk, rfl, HT, hBr, k2⟩ := hrel
      clear hB1 k1
      obtain ⟨q0, q1⟩ := k2.two
      by_cases hlt : k < m
      · obtain ⟨g, o, rfl, hxk, A', c', hcx, hr0, hcc⟩ := (hb.below hBr).at_ hlt
        have HXN := Lib.hid (HMS2.out ms[k] (List.getElem_mem hxk))
        have hl1 := HXN.out.1
        rw [HNL.out] at hl1
        rw [hl1] at hcx hr0
        have hcall := fun w' (hb : Below wr.heap.size wr w') => isBlade_any P A n c sq A' c' ms[k] w' HPP.out hd2 hd1 (ha.below (hBr.trans (hb.mono hBr.size))) HS.out (hr0.below hb) HXN.out.2
        have HC := Lib.hid hcall
        have HMEM := Lib.hid (List.getElem_mem hxk)
        have HTK : Hid (isBl P sq n ms[k] = true → (ms.take (k + 1)).all (isBl P sq n) = true) := Lib.hid (fun h => all_take3 hxk HT.out h)
        obtain ⟨x, hx⟩ : ∃ x, x = ms[k] := ⟨_, rfl⟩
        rw [← hx] at HC HMEM HTK
        clear hl1 hcall hr0 hcc hx HXN hxk
        cases ho : isBl P sq n x
        all_goals
          have HO := Lib.hid ho
          clear ho
          go_wp2_with fail
          refine (HC.out _ (Below.refl _ _)).mono ?_
          rintro e w2 ⟨rfl, hb2⟩
          rw [HO.out]
          have HB5 := hBr.trans (hb2.mono hBr.size)
          have K5 := k2.below hb2 k2.lt
          go_wp2
        · go_ret
          exact ⟨ret_int (codeL_bad E1.out HMEM.out (by rw [HNL.out]; exact HO.out)).symm, HB5⟩
        · go_roundw
          case rel => exact ⟨k + 1, by omega, by go_num, Lib.hid (HTK.out HO.out), HB5, K5⟩
          case measure => simp [intOf]; omega
      · go_wp2
        go_ret
        refine ⟨ret_int (codeL_good E1.out ?_).symm, hBr⟩
        have := HT.out
        rw [List.take_of_length_le (by rw [HML.out]; omega)] at this
        rw [HNL.out]; exact this
  · obtain ⟨r, hr⟩ : ∃ r, r = codeM P sq ms := ⟨_, rfl⟩
    have E1 := Lib.hid e1
    have HR := Lib.hid hr
    have b0 : (r != 0) = true := code_ne (by rw [hr]; exact e1)
    rw [← hr] at hcm
    clear e1 hr hms
    go_enter Tryz.func226, Tryz.ntmps226
    go_wp2_with fail
    refine hcm.mono ?_
    rintro e w1 ⟨rfl, hb1⟩
    go_wp2
    go_ret
    exact ⟨ret_int (by rw [codeL_ne E1.out, HR.out]), hB0.trans (hb1.mono (by simp))⟩
set_option maxHeartbeats 3200000 in
set_option maxRecDepth 8000 in
theorem l06Code_any (P : Int) (A B : Option Addr) (n c m d : Nat) (sq : List Int) (ms : List (List Int)) (w : World) (hn : n ≤ 1048576) (hm : m ≤ 1048576) (ha : Rd w A n (ints sq)) (hb : RdII w B m ms) (hms : ∀ ys ∈ ms, ys.length ≤ 1048576) :
    Calls Tryz.prog 229 #[.agg #[.int .i64 P, .slice A n c], .slice B m d] w fun e w' => e = .returned (.int .i64 (codeL P sq ms)) ∧ Below w.heap.size w w' := by
  have hB0 : Below w.heap.size w (w.alloc (.cells #[.int .i64 P, .slice A n c] 26)) := (Below.refl _ _).alloc (Nat.le_refl _) _
  have k0 : Blk (w.alloc (.cells #[.int .i64 P, .slice A n c] 26)) w.heap.size 26 #[.int .i64 P, .slice A n c] := Blk.new _ _ _
  have hcm := l04Code_any P A B n c m d sq ms _ hn hm (ha.below hB0) (hb.below hB0) hms
  by_cases e1 : codeM P sq ms = 0
  · obtain ⟨HP, _, _, hd1, hd2, hs, hms2⟩ := codeM_spec3 e1
    have hnl := ha.lenI
    rw [hnl] at hd1 hd2
    have HNL := Lib.hid hnl
    have hml := hb.len
    rw [e1] at hcm
    have E1 := Lib.hid e1
    have HMS2 := Lib.hid hms2
    have HS := Lib.hid hs
    have HPP := Lib.hid HP
    have HML := Lib.hid hml
    clear e1 hms2 hms hs hml hnl HP
    go_enter Tryz.func229, Tryz.ntmps229
    go_wp2_with fail
    refine hcm.mono ?_
    rintro e w1 ⟨rfl, hb1⟩
    have hB1 := hB0.trans (hb1.mono (by simp))
    have k1 := k0.below hb1 k0.lt
    clear k0 hB0 hb1
    go_wp2
    go_loopw [6] (fun i wr => ∃ k : Nat, k ≤ m ∧ i = .int .i64 k ∧ Hid ((ms.take k).all (isBl P sq n) = true) ∧ Below w.heap.size w wr ∧ Blk wr w.heap.size 26 #[.int .i64 P, .slice A n c]) (fun i _ => m - (intOf i).toNat)
    case atStart => exact ⟨0, by omega, rfl, Lib.hid (by simp), hB1, k1⟩
    case round =>
      obtain ⟨k, hk, rfl, HT, hBr, k2⟩ := hrel
      clear hB1 k1
      obtain ⟨q0, q1⟩ := k2.two
      by_cases hlt : k < m
      · obtain ⟨g, o, rfl, hxk, A', c', hcx, hr0, hcc⟩ := (hb.below hBr).at_ hlt
        have HXN := Lib.hid (HMS2.out ms[k] (List.getElem_mem hxk))
        have hl1 := HXN.out.1
        rw [HNL.out] at hl1
        rw [hl1] at hcx hr0
        have hcall := fun w' (hb : Below wr.heap.size wr w') => l06Is_any P A n c sq A' c' ms[k] w' HPP.out hd2 hd1 (ha.below (hBr.trans (hb.mono hBr.size))) HS.out (hr0.below hb) HXN.out.2
        have HC := Lib.hid hcall
        have HMEM := Lib.hid (List.getElem_mem hxk)
        have HTK : Hid (isBl P sq n ms[k] = true → (ms.take (k + 1)).all (isBl P sq n) = true) := Lib.hid (fun h => all_take3 hxk HT.out h)
        obtain ⟨x, hx⟩ : ∃ x, x = ms[k] := ⟨_, rfl⟩
        rw [← hx] at HC HMEM HTK
        clear hl1 hcall hr0 hcc hx HXN hxk
        cases ho : isBl P sq n x
        all_goals
          have HO := Lib.hid ho
          clear ho
          go_wp2
          refine wp_obs 7 [[], [], [], [1, 2], [1, 2, 3], [0, 1, 2, 3, 4], [0, 1, 2, 3, 4, 5]] [VIs (.agg #[.int .i64 P, .slice A n c]), VIs (.slice (some ⟨g, o, none⟩) m d), VIs (.int .i64 (k)), VIs (.pointer (some ⟨g, o + k, none⟩)), VIs (.slice A' (pw n) c'), VIs (.bool (isBl P sq n x)), VIs (.bool (!isBl P sq n x))] (fun w' => w'.cell? ⟨g, o + k, none⟩ = some (.slice A' (pw n) c') ∧ Blk w' w.heap.size 26 #[.int .i64 P, .slice A n c] ∧ Below wr.heap.size wr w') (by kernel_rfl) (by kernel_rfl) (fun _ _ h hb => ⟨(hb.cell (World.block_lt_of_cell? _ _ h.1)).trans h.1, h.2.1.below hb h.2.1.lt, h.2.2.trans (hb.mono h.2.2.size)⟩) (⟨hcx, k2.drew, (Below.refl _ _).drew⟩) (fun xv => ?_)
          refine obs_step (Eq.trans (by simp only [List.getElem?_toArray, List.getElem?_cons_zero]; exact rfl) rfl) rfl (fun w' hS hV K hK => ?_) ?_
          · have q2 := hS.1; obtain ⟨q0, q1⟩ := hS.2.1.two
            go_simp
            exact hK.out _ _ _ rfl rfl rfl (Below.refl _ _)
          simp only [List.setIfInBounds_toArray, List.set_cons_zero, List.set_cons_succ]
          refine obs_step (Eq.trans (by simp only [List.getElem?_toArray, List.getElem?_cons_succ, List.getElem?_cons_zero]; exact rfl) rfl) rfl (fun w' hS hV K hK => ?_) ?_
          · have q2 := hS.1; obtain ⟨q0, q1⟩ := hS.2.1.two
            go_simp
            exact hK.out _ _ _ rfl rfl rfl (Below.refl _ _)
          simp only [List.setIfInBounds_toArray, List.set_cons_zero, List.set_cons_succ]
          refine obs_step (Eq.trans (by simp only [List.getElem?_toArray, List.getElem?_cons_succ, List.getElem?_cons_zero]; exact rfl) rfl) rfl (fun w' hS hV K hK => ?_) ?_
          · have q2 := hS.1; obtain ⟨q0, q1⟩ := hS.2.1.two
            go_simp
            exact hK.out _ _ _ rfl rfl rfl (Below.refl _ _)
          simp only [List.setIfInBounds_toArray, List.set_cons_zero, List.set_cons_succ]
          refine obs_step (Eq.trans (by simp only [List.getElem?_toArray, List.getElem?_cons_succ, List.getElem?_cons_zero]; exact rfl) rfl) rfl (fun w' hS hV K hK => ?_) ?_
          · have e1 : xv 1 = (.slice (some ⟨g, o, none⟩) m d) := hV 1 (by decide)
            have e2 : xv 2 = (.int .i64 (k)) := hV 2 (by decide)
            have q2 := hS.1; obtain ⟨q0, q1⟩ := hS.2.1.two
            go_simp
            exact hK.out _ _ _ rfl rfl rfl (Below.refl _ _)
          simp only [List.setIfInBounds_toArray, List.set_cons_zero, List.set_cons_succ]
          refine obs_step (Eq.trans (by simp only [List.getElem?_toArray, List.getElem?_cons_succ, List.getElem?_cons_zero]; exact rfl) rfl) rfl (fun w' hS hV K hK => ?_) ?_
          · have e1 : xv 1 = (.slice (some ⟨g, o, none⟩) m d) := hV 1 (by decide)
            have e2 : xv 2 = (.int .i64 (k)) := hV 2 (by decide)
            have e3 : xv 3 = (.pointer (some ⟨g, o + k, none⟩)) := hV 3 (by decide)
            have q2 := hS.1; obtain ⟨q0, q1⟩ := hS.2.1.two
            go_simp
            exact hK.out _ _ _ rfl rfl rfl (Below.refl _ _)
          simp only [List.setIfInBounds_toArray, List.set_cons_zero, List.set_cons_succ]
          refine obs_step (Eq.trans (by simp only [List.getElem?_toArray, List.getElem?_cons_succ, List.getElem?_cons_zero]; exact rfl) rfl) rfl (fun w' hS hV K hK => ?_) ?_
          · have e0 : xv 0 = (.agg #[.int .i64 P, .slice A n c]) := hV 0 (by decide)
            have e1 : xv 1 = (.slice (some ⟨g, o, none⟩) m d) := hV 1 (by decide)
            have e2 : xv 2 = (.int .i64 (k)) := hV 2 (by decide)
            have e3 : xv 3 = (.pointer (some ⟨g, o + k, none⟩)) := hV 3 (by decide)
            have e4 : xv 4 = (.slice A' (pw n) c') := hV 4 (by decide)
            have q2 := hS.1; obtain ⟨q0, q1⟩ := hS.2.1.two
            go_simp
            refine (HC.out _ hS.2.2).mono ?_
            rintro e v1 ⟨rfl, hb⟩
            exact hK.out _ _ _ rfl rfl rfl hb
          simp only [List.setIfInBounds_toArray, List.set_cons_zero, List.set_cons_succ]
          refine obs_step (Eq.trans (by simp only [List.getElem?_toArray, List.getElem?_cons_succ, List.getElem?_cons_zero]; exact rfl) rfl) rfl (fun w' hS hV K hK => ?_) ?_
          · have e0 : xv 0 = (.agg #[.int .i64 P, .slice A n c]) := hV 0 (by decide)
            have e1 : xv 1 = (.slice (some ⟨g, o, none⟩) m d) := hV 1 (by decide)
            have e2 : xv 2 = (.int .i64 (k)) := hV 2 (by decide)
            have e3 : xv 3 = (.pointer (some ⟨g, o + k, none⟩)) := hV 3 (by decide)
            have e4 : xv 4 = (.slice A' (pw n) c') := hV 4 (by decide)
            have e5 : xv 5 = (.bool (isBl P sq n x)) := hV 5 (by decide)
            have q2 := hS.1; obtain ⟨q0, q1⟩ := hS.2.1.two
            go_simp
            exact hK.out _ _ _ rfl rfl rfl (Below.refl _ _)
          simp only [List.setIfInBounds_toArray, List.set_cons_zero, List.set_cons_succ]
          refine fun w' hS hV => ?_
          have e0 : xv 0 = (.agg #[.int .i64 P, .slice A n c]) := hV 0 (by decide)
          have e1 : xv 1 = (.slice (some ⟨g, o, none⟩) m d) := hV 1 (by decide)
          have e2 : xv 2 = (.int .i64 (k)) := hV 2 (by decide)
          have e3 : xv 3 = (.pointer (some ⟨g, o + k, none⟩)) := hV 3 (by decide)
          have e4 : xv 4 = (.slice A' (pw n) c') := hV 4 (by decide)
          have e5 : xv 5 = (.bool (isBl P sq n x)) := hV 5 (by decide)
          have e6 : xv 6 = (.bool (!isBl P sq n x)) := hV 6 (by decide)
          simp only [e0, e1, e2, e3, e4, e5, e6]
          clear e0 e1 e2 e3 e4 e5 e6
          refine wpAny_done (by kernel_rfl) ?_ _
          rw [HO.out]
          have HB5 := hBr.trans (hS.2.2.mono hBr.size)
          have K5 := hS.2.1
          go_wp2
        · go_ret
          exact ⟨ret_int (codeL_bad E1.out HMEM.out (by rw [HNL.out]; exact HO.out)).symm, HB5⟩
        · go_roundw
          case rel => exact ⟨k + 1, by omega, by go_num, Lib.hid (HTK.out HO.out), HB5, K5⟩
          case measure => simp [intOf]; omega
      · go_wp2
        go_ret
        refine ⟨ret_int (codeL_good E1.out ?_).symm, hBr⟩
        have := HT.out
        rw [List.take_of_length_le (by rw [HML.out]; omega)] at this
        rw [HNL.out]; exact this
  · obtain ⟨r, hr⟩ : ∃ r, r = codeM P sq ms := ⟨_, rfl⟩
    have E1 := Lib.hid e1
    have HR := Lib.hid hr
    have b0 : (r != 0) = true := code_ne (by rw [hr]; exact e1)
    rw [← hr] at hcm
    clear e1 hr hms
    go_enter Tryz.func229, Tryz.ntmps229
    go_wp2_with fail
    refine hcm.mono ?_
    rintro e w1 ⟨rfl, hb1⟩
    go_wp2
    go_ret
    exact ⟨ret_int (by rw [codeL_ne E1.out, HR.out]), hB0.trans (hb1.mono (by simp))⟩
end Go.Proofs.YtggigolkncckoaaGreat
namespace Go.Proofs.YtggigolkncckoaaGreat
open Go.RowKit
theorem bind_own {rows : List Value} {i : Nat} {v : Value} (h : rows[i]? = some v) : (rows[i]?).bind Value.ownBlock = v.ownBlock := by rw [h]; rfl
theorem Nest.set {w w' : World} {B : Nat} {rows : List Value} {xss : List (List Int)} (h : Nest w B rows xss) {j : Nat} (hj : j < xss.length) {A : Option Addr} {c : Nat} (hr : rows[j]? = some (.slice A xss[j].length c)) {ys : List Int} (hl : ys.length = xss[j].length)
    (ho : Own w' B 2 A xss[j].length c (ints ys)) (hg : w.grownBy w' (Value.slice A xss[j].length c).ownBlock) : Nest w' B rows (xss.set j ys) := by
  refine ⟨by rw [List.length_set]; exact h.len, fun k hk => ?_, h.apart⟩
  have hk' : k < xss.length := by rw [List.length_set] at hk; exact hk
  rw [List.getElem_set]
  by_cases e : j = k
  · subst e
    rw [if_pos rfl, hl]
    exact ⟨A, c, hr, ho⟩
  · rw [if_neg e]
    obtain ⟨A', c', e', ho'⟩ := h.row k hk'
    refine ⟨A', c', e', ho'.grown hg ?_⟩
    cases hb : (Value.slice A' xss[k].length c').ownBlock with
    | none => exact .inl rfl
    | some g =>
      right
      intro hh
      rcases Nat.lt_or_ge j k with hlt | hge
      · exact h.apart j k g hlt ((bind_own hr).trans hh.symm) ((bind_own e').trans hb)
      · exact h.apart k j g (by omega) ((bind_own e').trans hb) ((bind_own hr).trans hh.symm)
/-- A slice of rows of numbers of the call's own, from block B on. -/
def OwnII (w : World) (B : Nat) (A : Option Addr) (n c : Nat) (xss : List (List Int)) : Prop := ∃ rows, Own w B 24 A n c rows ∧ Nest w B rows xss
theorem MkII.own {w0 w : World} {A : Option Addr} {n c : Nat} {xss : List (List Int)} (h : MkII w0 w A n c xss) : OwnII w w0.heap.size A n c xss := by
  obtain ⟨rows, h1, h2⟩ := h
  exact ⟨rows, h1.2, h2⟩
section
variable {w w' : World} {B B' : Nat} {A : Option Addr} {n c : Nat} {xss : List (List Int)}
theorem OwnII.len (h : OwnII w B A n c xss) : xss.length = n := by
  obtain ⟨rows, h1, h2⟩ := h
  rw [← h2.len]
  exact h1.len
theorem OwnII.rd (h : OwnII w B A n c xss) : RdII w A n xss := by
  obtain ⟨rows, hm, hn⟩ := h
  exact ⟨rows, hm.rd, hn.len, fun k hk => by obtain ⟨A', c', e, ho⟩ := hn.row k hk; exact ⟨A', c', e, ho.rd, ho.cap⟩⟩
theorem OwnII.below (h : OwnII w B A n c xss) (hb : Below w.heap.size w w') : OwnII w' B A n c xss := by
  obtain ⟨rows, hm, hn⟩ := h
  exact ⟨rows, hm.below hb, hn.below hb⟩
/-- A block below the base grows. -/
theorem OwnII.grown (h : OwnII w B A n c xss) {row : Option Nat} (hg : w.grownBy w' row) (hlow : ∀ g, row = some g → g < B) : OwnII w' B A n c xss := by
  obtain ⟨rows, hm, hn⟩ := h
  have key : ∀ {E : TypeId} {A' : Option Addr} {n' c' : Nat} {us : List Value}, Own w B E A' n' c' us → ((Value.slice A' n' c').ownBlock = none ∨ (Value.slice A' n' c').ownBlock ≠ row) := by
    intro E A' n' c' us ho
    cases hb : (Value.slice A' n' c').ownBlock with
    | none => exact .inl rfl
    | some g =>
      right
      intro e
      have h1 := hlow g e.symm
      have h2 := (World.ownsRow.lt ho g hb).1
      omega
  exact ⟨rows, hm.grown hg (key hm), hn.len, fun k hk => by obtain ⟨A', c', e, ho⟩ := hn.row k hk; exact ⟨A', c', e, ho.grown hg (key ho)⟩, hn.apart⟩
end
end Go.Proofs.YtggigolkncckoaaGreat
namespace Go.Proofs.YtggigolkncckoaaGreat
open Go.RowKit
theorem Blk.newAt3 {w : World} {t : TypeId} {cs : Array Value} {g : Nat} (hg : g = w.heap.size) : Blk (w.alloc (.cells cs t)) g t cs := hg ▸ Blk.new w t cs
theorem ret_bi3 {R : Bool × Int} {x : Bool} {y : Int} (h : R = (x, y)) : Ending.returned (.tuple #[.bool x, .int .i64 y]) = .returned (.tuple #[.bool R.1, .int .i64 R.2]) := by rw [h]
theorem noRow3 {w w' : World} {R : List Int × Int} {x : Int} (hR : R = ([], x)) (hB : Below w.heap.size w w') :
    ∃ (A' : Option Addr) (k c' : Nat), Ending.returned (.tuple #[.slice none 0 0, .int .i64 x]) = .returned (.tuple #[.slice A' k c', .int .i64 R.2]) ∧ MkI w w' A' k c' R.1 := by
  subst hR
  exact ⟨none, 0, 0, rfl, Mk.nil hB⟩
theorem aRow3 {w w' : World} {R : List Int × Int} {A : Option Addr} {k c : Nat} {L : List Int} {x : Int} (hR : R = (L, x)) (hM : MkI w w' A k c L) :
    ∃ (A' : Option Addr) (k' c' : Nat), Ending.returned (.tuple #[.slice A k c, .int .i64 x]) = .returned (.tuple #[.slice A' k' c', .int .i64 R.2]) ∧ MkI w w' A' k' c' R.1 := by
  subst hR
  exact ⟨_, _, _, rfl, hM⟩
theorem noMat3 {w w' : World} {R : List (List Int) × Int} {x : Int} (hR : R = ([], x)) (hB : Below w.heap.size w w') :
    ∃ (A' : Option Addr) (k c' : Nat), Ending.returned (.tuple #[.slice none 0 0, .int .i64 x]) = .returned (.tuple #[.slice A' k c', .int .i64 R.2]) ∧ MkII w w' A' k c' R.1 := by
  subst hR
  exact ⟨none, 0, 0, rfl, MkII.nil hB⟩
theorem aMat3 {w w' : World} {R : List (List Int) × Int} {A : Option Addr} {k c : Nat} {L : List (List Int)} {x : Int} (hR : R = (L, x)) (hM : MkII w w' A k c L) :
    ∃ (A' : Option Addr) (k' c' : Nat), Ending.returned (.tuple #[.slice A k c, .int .i64 x]) = .returned (.tuple #[.slice A' k' c', .int .i64 R.2]) ∧ MkII w w' A' k' c' R.1 := by
  subst hR
  exact ⟨_, _, _, rfl, hM⟩
theorem zeroL_first (xs : List Int) : decide (firstL xs < 0) = zeroL xs := by
  unfold firstL zeroL
  have := leadL_le xs
  rw [Bool.eq_iff_iff, decide_eq_true_eq, beq_iff_eq]
  split <;> omega
/-- SubspaceOf. -/
def subR (P : Int) (sq : List Int) (xs : List Int) : List (List Int) × Int := if codeL P sq [xs] = 0 then (subL P sq sq.length xs, 0) else ([], codeL P sq [xs])
theorem subR_ok {P : Int} {sq xs : List Int} (h : codeL P sq [xs] = 0) : subR P sq xs = (subL P sq sq.length xs, 0) := by unfold subR; rw [if_pos h]
theorem subR_bad {P : Int} {sq xs : List Int} (h : ¬ codeL P sq [xs] = 0) : subR P sq xs = ([], codeL P sq [xs]) := by unfold subR; rw [if_neg h]
set_option maxHeartbeats 3200000 in
set_option maxRecDepth 8000 in
theorem SubspaceOf_any (P : Int) (A : Option Addr) (n c : Nat) (sq : List Int) (X : Option Addr) (m cx : Nat) (xs : List Int) (w : World) (hn : n ≤ 1048576) (hm : m ≤ 1048576) (ha : Rd w A n (ints sq)) (hx : Rd w X m (ints xs)) (hcx : m ≤ cx) :
    Calls Tryz.prog 81 #[.agg #[.int .i64 P, .slice A n c], .slice X m cx] w fun e w' => ∃ (A' : Option Addr) (k c' : Nat), e = .returned (.tuple #[.slice A' k c', .int .i64 (subR P sq xs).2]) ∧ MkII w w' A' k c' (subR P sq xs).1 := by
  have hB0 : Below w.heap.size w (w.alloc (.cells #[.int .i64 P, .slice A n c] 26)) := (Below.refl _ _).alloc (Nat.le_refl _) _
  have k0 : Blk (w.alloc (.cells #[.int .i64 P, .slice A n c] 26)) w.heap.size 26 #[.int .i64 P, .slice A n c] := Blk.new _ _ _
  have hB1 : Below w.heap.size w ((w.alloc (.cells #[.int .i64 P, .slice A n c] 26)).alloc (.cells #[.slice X m cx] 24)) := hB0.alloc (by simp) _
  have k1 : Blk ((w.alloc (.cells #[.int .i64 P, .slice A n c] 26)).alloc (.cells #[.slice X m cx] 24)) w.heap.size 26 #[.int .i64 P, .slice A n c] := k0.alloc _
  have hreg := checkBlades_any P A (some ⟨w.heap.size + 1, 0, none⟩) n c 1 1 sq [xs] ((w.alloc (.cells #[.int .i64 P, .slice A n c] 26)).alloc (.cells #[.slice X m cx] 24)) hn (by omega) (ha.below hB1) (rdII_one' (Blk.newAt3 (by simp)) (hx.below hB1) hcx) (all_one (by rw [hx.lenI]; exact hm))
  by_cases hr0 : codeL P sq [xs] = 0
  · skip
    have hcM := (codeL_zero hr0).1
    rw [hr0] at hreg
    have HR0 := Lib.hid hr0
    clear hr0
    obtain ⟨HP, hp, hp2, hd1, hd2, hs0, hms⟩ := codeM_spec3 hcM
    have hsl := ha.lenI
    obtain ⟨hx1, hxs0⟩ := hms xs (by simp)
    have hmx : m = pw n := by rw [← hx.lenI, hx1, hsl]
    subst hmx
    have HSL := Lib.hid hsl
    have HS0 := Lib.hid hs0
    have HXS := Lib.hid hxs0
    have hn6 : n ≤ 6 := by omega
    have hn0 : 0 < n := by omega
    clear hsl hms hx1 hs0 hxs0 hd1 hd2 hcM
    go_enter Tryz.func81, Tryz.ntmps81
    go_wp2_with fail
    refine hreg.mono ?_
    rintro e w2 ⟨rfl, hb2⟩
    have hB2 := hB1.trans (hb2.mono hB1.size)
    have k2 := k1.below hb2 k1.lt
    obtain ⟨q0, q1⟩ := k2.two
    clear k0 hB0 k1 hB1 hb2
    go_wp2_with fail
    refine (subspace_any P A n c sq X cx xs _ HP hn6 hn0 (ha.below hB2) HS0.out (hx.below hB2) HXS.out).mono ?_
    rintro e w3 ⟨A3, c3, rfl, hM⟩
    go_wp2
    go_ret2
    exact aMat3 (by rw [subR_ok HR0.out, HSL.out]) (hM.after hB2)
  · obtain ⟨r, hr⟩ : ∃ r, r = codeL P sq [xs] := ⟨_, rfl⟩
    have HR := Lib.hid hr
    have HR0 := Lib.hid hr0
    have b0 : (r != 0) = true := code_ne (by rw [hr]; exact hr0)
    rw [← hr] at hreg
    clear hr hr0
    go_enter Tryz.func81, Tryz.ntmps81
    go_wp2_with fail
    refine hreg.mono ?_
    rintro e w2 ⟨rfl, hb2⟩
    have hB2 := hB1.trans (hb2.mono hB1.size)
    have k2 := k1.below hb2 k1.lt
    obtain ⟨q0, q1⟩ := k2.two
    clear k0 hB0 k1 hB1 hb2
    go_wp2
    go_ret2
    exact noMat3 (by rw [subR_bad HR0.out, HR.out]) hB2
theorem codeLv_eq {P : Int} {sq xs v : List Int} (h : codeM P sq [xs] = 0) : codeLv P sq xs v = if isVe P sq v then (if isBl P sq sq.length xs then 0 else 5) else 2 := by unfold codeLv; rw [if_pos h]
theorem codeLv_ne {P : Int} {sq xs v : List Int} (h : ¬ codeM P sq [xs] = 0) : codeLv P sq xs v = codeM P sq [xs] := by unfold codeLv; rw [if_neg h]
/-- BladeContains. -/
def contR (P : Int) (sq : List Int) (xs : List Int) (v : List Int) : Bool × Int := if codeLv P sq xs v = 0 then (zeroL (wedgeL P sq (vecTo sq.length v sq.length) xs), 0) else (false, codeLv P sq xs v)
theorem contR_ok {P : Int} {sq xs v : List Int} (h : codeLv P sq xs v = 0) : contR P sq xs v = (zeroL (wedgeL P sq (vecTo sq.length v sq.length) xs), 0) := by unfold contR; rw [if_pos h]
theorem contR_bad {P : Int} {sq xs v : List Int} (h : ¬ codeLv P sq xs v = 0) : contR P sq xs v = (false, codeLv P sq xs v) := by unfold contR; rw [if_neg h]
set_option maxHeartbeats 3200000 in
set_option maxRecDepth 8000 in
theorem BladeContains_any (P : Int) (A : Option Addr) (n c : Nat) (sq : List Int) (X : Option Addr) (m cx : Nat) (xs : List Int) (Y : Option Addr) (l cy : Nat) (ys : List Int) (w : World) (hn : n ≤ 1048576) (hm : m ≤ 1048576) (hl : l ≤ 1048576) (ha : Rd w A n (ints sq)) (hx : Rd w X m (ints xs)) (hcx : m ≤ cx) (hy : Rd w Y l (ints ys)) (hcy : l ≤ cy) :
    Calls Tryz.prog 82 #[.agg #[.int .i64 P, .slice A n c], .slice X m cx, .slice Y l cy] w fun e w' => e = .returned (.tuple #[.bool (contR P sq xs ys).1, .int .i64 (contR P sq xs ys).2]) ∧ Below w.heap.size w w' := by
  have hB0 : Below w.heap.size w (w.alloc (.cells #[.int .i64 P, .slice A n c] 26)) := (Below.refl _ _).alloc (Nat.le_refl _) _
  have k0 : Blk (w.alloc (.cells #[.int .i64 P, .slice A n c] 26)) w.heap.size 26 #[.int .i64 P, .slice A n c] := Blk.new _ _ _
  have hB1 : Below w.heap.size w ((w.alloc (.cells #[.int .i64 P, .slice A n c] 26)).alloc (.cells #[.slice X m cx] 24)) := hB0.alloc (by simp) _
  have k1 : Blk ((w.alloc (.cells #[.int .i64 P, .slice A n c] 26)).alloc (.cells #[.slice X m cx] 24)) w.heap.size 26 #[.int .i64 P, .slice A n c] := k0.alloc _
  have hreg := checkMultis_any P A (some ⟨w.heap.size + 1, 0, none⟩) n c 1 1 sq [xs] ((w.alloc (.cells #[.int .i64 P, .slice A n c] 26)).alloc (.cells #[.slice X m cx] 24)) hn (by omega) (ha.below hB1) (rdII_one' (Blk.newAt3 (by simp)) (hx.below hB1) hcx) (all_one (by rw [hx.lenI]; exact hm))
  by_cases hcM : codeM P sq [xs] = 0
  · have HCV := Lib.hid (codeLv_eq (v := ys) hcM)
    rw [hcM] at hreg
    obtain ⟨HP, hp, hp2, hd1, hd2, hs0, hms⟩ := codeM_spec3 hcM
    have hsl := ha.lenI
    obtain ⟨hx1, hxs0⟩ := hms xs (by simp)
    have hmx : m = pw n := by rw [← hx.lenI, hx1, hsl]
    subst hmx
    have HSL := Lib.hid hsl
    have HS0 := Lib.hid hs0
    have HXS := Lib.hid hxs0
    have hn6 : n ≤ 6 := by omega
    have hn0 : 0 < n := by omega
    clear hms hx1 hs0 hxs0 hd1 hd2
    clear hcM
    have hvec := fun w' (hb : Below w.heap.size w w') => isVector_any P A Y n c l cy sq ys w' hn hsl hl (by omega) hp2 (hy.below hb)
    cases hve : isVe P sq ys
    · have HC5 : Hid (¬ codeLv P sq xs ys = 0 ∧ codeLv P sq xs ys = 2) := Lib.hid (by rw [HCV.out, hve]; simp)
      rw [hve] at hvec
      clear hve hsl
      go_enter Tryz.func82, Tryz.ntmps82
      go_wp2_with fail
      refine hreg.mono ?_
      rintro e w2 ⟨rfl, hb2⟩
      have hB2 := hB1.trans (hb2.mono hB1.size)
      have k2 := k1.below hb2 k1.lt
      obtain ⟨q0, q1⟩ := k2.two
      clear k0 hB0 k1 hB1 hb2
      go_wp2_with fail
      refine (hvec _ hB2).mono ?_
      rintro e w3 ⟨rfl, hb3⟩
      go_wp2
      go_ret2
      exact ⟨ret_bi3 (by rw [contR_bad HC5.out.1, HC5.out.2]), hB2.trans (hb3.mono hB2.size)⟩
    · obtain ⟨hly0, hys0⟩ := isVe_spec3 hve
      have hly : n = l := by rw [← hy.lenI, hly0, hsl]
      subst hly
      have HYS := Lib.hid hys0
      have hbl := fun w' (hb : Below w.heap.size w w') => isBlade_any P A n c sq X cx xs w' HP hn6 hn0 (ha.below hb) HS0.out (hx.below hb) HXS.out
      have HVE := Lib.hid hve
      rw [hve] at hvec
      clear hve hsl hly0 hys0
      cases hbb : isBl P sq n xs
      · have HC5 : Hid (¬ codeLv P sq xs ys = 0 ∧ codeLv P sq xs ys = 5) := Lib.hid (by rw [HCV.out, HVE.out, HSL.out, hbb]; simp)
        rw [hbb] at hbl
        clear hbb
        go_enter Tryz.func82, Tryz.ntmps82
        go_wp2_with fail
        refine hreg.mono ?_
        rintro e w2 ⟨rfl, hb2⟩
        have hB2 := hB1.trans (hb2.mono hB1.size)
        have k2 := k1.below hb2 k1.lt
        obtain ⟨q0, q1⟩ := k2.two
        clear k0 hB0 k1 hB1 hb2
        go_wp2_with fail
        refine (hvec _ hB2).mono ?_
        rintro e w3 ⟨rfl, hb3⟩
        have hB3 := hB2.trans (hb3.mono hB2.size)
        have k3 := k2.below hb3 k2.lt
        obtain ⟨q0, q1⟩ := k3.two
        clear k2 hB2 hb3 hvec
        go_wp2_with fail
        refine (hbl _ hB3).mono ?_
        rintro e w4 ⟨rfl, hb4⟩
        go_wp2
        go_ret2
        exact ⟨ret_bi3 (by rw [contR_bad HC5.out.1, HC5.out.2]), hB3.trans (hb4.mono hB3.size)⟩
      · have HR0 : Hid (codeLv P sq xs ys = 0) := Lib.hid (by rw [HCV.out, HVE.out, HSL.out, hbb]; simp)
        rw [hbb] at hbl
        clear hbb
        go_enter Tryz.func82, Tryz.ntmps82
        go_wp2_with fail
        refine hreg.mono ?_
        rintro e w2 ⟨rfl, hb2⟩
        have hB2 := hB1.trans (hb2.mono hB1.size)
        have k2 := k1.below hb2 k1.lt
        obtain ⟨q0, q1⟩ := k2.two
        clear k0 hB0 k1 hB1 hb2
        go_wp2_with fail
        refine (hvec _ hB2).mono ?_
        rintro e w3 ⟨rfl, hb3⟩
        have hB3 := hB2.trans (hb3.mono hB2.size)
        have k3 := k2.below hb3 k2.lt
        obtain ⟨q0, q1⟩ := k3.two
        clear k2 hB2 hb3 hvec
        go_wp2_with fail
        refine (hbl _ hB3).mono ?_
        rintro e w4 ⟨rfl, hb4⟩
        have hB4 := hB3.trans (hb4.mono hB3.size)
        have k4 := k3.below hb4 k3.lt
        obtain ⟨q0, q1⟩ := k4.two
        clear k3 hB3 hb4 hbl
        have hpwl : pw n ≤ 64 := pw_le hn6
        have HA := Lib.hid (ha.below hB4)
        have HX := Lib.hid (hx.below hB4)
        have HY := Lib.hid (hy.below hB4)
        have HOK : Hid (contR P sq xs ys = (zeroL (wedgeL P sq (vecTo n ys n) xs), 0)) := Lib.hid (by rw [contR_ok HR0.out, HSL.out])
        have hfz := zeroL_first (wedgeL P sq (vecTo n ys n) xs)
        obtain ⟨ff, hff⟩ : ∃ ff, ff = firstL (wedgeL P sq (vecTo n ys n) xs) := ⟨_, rfl⟩
        have HFF := Lib.hid hff.symm
        rw [← hff] at hfz
        clear hff
        cases hzz : zeroL (wedgeL P sq (vecTo n ys n) xs)
        · rw [hzz] at hfz
          have HZZ := Lib.hid hzz
          have hfi : ¬ ff < 0 := by simpa using hfz
          clear hzz hfz
          go_wp2
          refine wp_obs 9 [[], [], [], [1, 2], [], [0, 1, 2, 3, 4], [0, 1, 2, 3, 4, 5], [0, 1, 2, 3, 4, 5, 6], []] [VIs (.agg #[.int .i64 P, .slice A n c]), VIs (.agg #[.int .i64 P, .slice A n c]), VIs (.slice Y n cy), VSl w4 (pw n) (vecTo n ys n), VIs (.slice X (pw n) cx), VSl w4 (pw n) (wedgeL P sq (vecTo n ys n) xs), VIs (.bool false), VIs (.bool false), VIs (.int .i64 0)] (fun w' => Blk w' w.heap.size 26 #[.int .i64 P, .slice A n c] ∧ Below w4.heap.size w4 w') (by kernel_rfl) (by kernel_rfl) (fun _ _ h hb => ⟨h.1.below hb h.1.lt, h.2.trans (hb.mono h.2.size)⟩) (⟨k4.drew, (Below.refl _ _).drew⟩) (fun x => ?_)
          refine obs_step (Eq.trans (by simp only [List.getElem?_toArray, List.getElem?_cons_zero]; exact rfl) rfl) rfl (fun w' hS hV K hK => ?_) ?_
          · obtain ⟨q0, q1⟩ := hS.1.two
            go_simp
            exact hK.out _ _ _ rfl rfl rfl (Below.refl _ _)
          simp only [List.setIfInBounds_toArray, List.set_cons_zero, List.set_cons_succ]
          refine obs_step (Eq.trans (by simp only [List.getElem?_toArray, List.getElem?_cons_succ, List.getElem?_cons_zero]; exact rfl) rfl) rfl (fun w' hS hV K hK => ?_) ?_
          · obtain ⟨q0, q1⟩ := hS.1.two
            go_simp
            exact hK.out _ _ _ rfl rfl rfl (Below.refl _ _)
          simp only [List.setIfInBounds_toArray, List.set_cons_zero, List.set_cons_succ]
          refine obs_step (Eq.trans (by simp only [List.getElem?_toArray, List.getElem?_cons_succ, List.getElem?_cons_zero]; exact rfl) rfl) rfl (fun w' hS hV K hK => ?_) ?_
          · obtain ⟨q0, q1⟩ := hS.1.two
            go_simp
            exact hK.out _ _ _ rfl rfl rfl (Below.refl _ _)
          simp only [List.setIfInBounds_toArray, List.set_cons_zero, List.set_cons_succ]
          refine obs_step (Eq.trans (by simp only [List.getElem?_toArray, List.getElem?_cons_succ, List.getElem?_cons_zero]; exact rfl) rfl) rfl (fun w' hS hV K hK => ?_) ?_
          · have e1 : x 1 = (.agg #[.int .i64 P, .slice A n c]) := hV 1 (by decide)
            have e2 : x 2 = (.slice Y n cy) := hV 2 (by decide)
            obtain ⟨q0, q1⟩ := hS.1.two
            go_simp
            refine (vector_any P A n c _ _ ys _ (by omega) (HY.out.below hS.2)).mono ?_
            rintro e v1 ⟨A2, c2, rfl, hM⟩
            exact hK.out _ _ _ rfl rfl ⟨_, _, rfl, hM.after hS.2⟩ hM.b
          simp only [List.setIfInBounds_toArray, List.set_cons_zero, List.set_cons_succ]
          refine obs_step (Eq.trans (by simp only [List.getElem?_toArray, List.getElem?_cons_succ, List.getElem?_cons_zero]; exact rfl) rfl) rfl (fun w' hS hV K hK => ?_) ?_
          · obtain ⟨q0, q1⟩ := hS.1.two
            go_simp
            exact hK.out _ _ _ rfl rfl rfl (Below.refl _ _)
          simp only [List.setIfInBounds_toArray, List.set_cons_zero, List.set_cons_succ]
          refine obs_step (Eq.trans (by simp only [List.getElem?_toArray, List.getElem?_cons_succ, List.getElem?_cons_zero]; exact rfl) rfl) rfl (fun w' hS hV K hK => ?_) ?_
          · have e0 : x 0 = (.agg #[.int .i64 P, .slice A n c]) := hV 0 (by decide)
            have e1 : x 1 = (.agg #[.int .i64 P, .slice A n c]) := hV 1 (by decide)
            have e2 : x 2 = (.slice Y n cy) := hV 2 (by decide)
            obtain ⟨A3, c3, e3, h3⟩ := hV 3 (by decide)
            have e4 : x 4 = (.slice X (pw n) cx) := hV 4 (by decide)
            obtain ⟨q0, q1⟩ := hS.1.two
            go_simp
            refine (wedge_any P A n c sq _ _ (vecTo n ys n) _ _ xs _ hp hp2 hn6 (HA.out.below hS.2) HS0.out h3.rd (vecTo_nums (by omega) n _ HYS.out n) (HX.out.below hS.2) HXS.out).mono ?_
            rintro e v1 ⟨A2, c2, rfl, hM⟩
            exact hK.out _ _ _ rfl rfl ⟨_, _, rfl, hM.after hS.2⟩ hM.b
          simp only [List.setIfInBounds_toArray, List.set_cons_zero, List.set_cons_succ]
          refine obs_step (Eq.trans (by simp only [List.getElem?_toArray, List.getElem?_cons_succ, List.getElem?_cons_zero]; exact rfl) rfl) rfl (fun w' hS hV K hK => ?_) ?_
          · have e0 : x 0 = (.agg #[.int .i64 P, .slice A n c]) := hV 0 (by decide)
            have e1 : x 1 = (.agg #[.int .i64 P, .slice A n c]) := hV 1 (by decide)
            have e2 : x 2 = (.slice Y n cy) := hV 2 (by decide)
            obtain ⟨A3, c3, e3, h3⟩ := hV 3 (by decide)
            have e4 : x 4 = (.slice X (pw n) cx) := hV 4 (by decide)
            obtain ⟨A5, c5, e5, h5⟩ := hV 5 (by decide)
            obtain ⟨q0, q1⟩ := hS.1.two
            go_simp
            refine (isZero_any _ _ _ _ _ (by omega) h5.rd).mono ?_
            rw [HZZ.out]
            rintro e v1 ⟨rfl, rfl⟩
            exact hK.out _ _ _ rfl rfl rfl (Below.refl _ _)
          simp only [List.setIfInBounds_toArray, List.set_cons_zero, List.set_cons_succ]
          refine obs_step (Eq.trans (by simp only [List.getElem?_toArray, List.getElem?_cons_succ, List.getElem?_cons_zero]; exact rfl) rfl) rfl (fun w' hS hV K hK => ?_) ?_
          · have e0 : x 0 = (.agg #[.int .i64 P, .slice A n c]) := hV 0 (by decide)
            have e1 : x 1 = (.agg #[.int .i64 P, .slice A n c]) := hV 1 (by decide)
            have e2 : x 2 = (.slice Y n cy) := hV 2 (by decide)
            obtain ⟨A3, c3, e3, h3⟩ := hV 3 (by decide)
            have e4 : x 4 = (.slice X (pw n) cx) := hV 4 (by decide)
            obtain ⟨A5, c5, e5, h5⟩ := hV 5 (by decide)
            have e6 : x 6 = (.bool false) := hV 6 (by decide)
            obtain ⟨q0, q1⟩ := hS.1.two
            go_simp
            exact hK.out _ _ _ rfl rfl rfl (Below.refl _ _)
          simp only [List.setIfInBounds_toArray, List.set_cons_zero, List.set_cons_succ]
          refine obs_step (Eq.trans (by simp only [List.getElem?_toArray, List.getElem?_cons_succ, List.getElem?_cons_zero]; exact rfl) rfl) rfl (fun w' hS hV K hK => ?_) ?_
          · obtain ⟨q0, q1⟩ := hS.1.two
            go_simp
            exact hK.out _ _ _ rfl rfl rfl (Below.refl _ _)
          simp only [List.setIfInBounds_toArray, List.set_cons_zero, List.set_cons_succ]
          refine fun w' hS hV => ?_
          have e0 : x 0 = (.agg #[.int .i64 P, .slice A n c]) := hV 0 (by decide)
          have e1 : x 1 = (.agg #[.int .i64 P, .slice A n c]) := hV 1 (by decide)
          have e2 : x 2 = (.slice Y n cy) := hV 2 (by decide)
          obtain ⟨A3, c3, e3, h3⟩ := hV 3 (by decide)
          have e4 : x 4 = (.slice X (pw n) cx) := hV 4 (by decide)
          obtain ⟨A5, c5, e5, h5⟩ := hV 5 (by decide)
          have e6 : x 6 = (.bool false) := hV 6 (by decide)
          have e7 : x 7 = (.bool false) := hV 7 (by decide)
          have e8 : x 8 = (.int .i64 0) := hV 8 (by decide)
          simp only [e0, e1, e2, e3, e4, e5, e6, e7, e8]
          clear e0 e1 e2 e3 e4 e5 e6 e7 e8
          refine wpAny_done (by kernel_rfl) ?_ _
          go_wp2
          go_ret2
          exact ⟨ret_bi3 (by rw [HOK.out, HZZ.out]), hB4.trans (hS.2.mono hB4.size)⟩
        · rw [hzz] at hfz
          have HZZ := Lib.hid hzz
          have hfi : ff < 0 := by simpa using hfz
          clear hzz hfz
          go_wp2
          refine wp_obs 9 [[], [], [], [1, 2], [], [0, 1, 2, 3, 4], [0, 1, 2, 3, 4, 5], [0, 1, 2, 3, 4, 5, 6], []] [VIs (.agg #[.int .i64 P, .slice A n c]), VIs (.agg #[.int .i64 P, .slice A n c]), VIs (.slice Y n cy), VSl w4 (pw n) (vecTo n ys n), VIs (.slice X (pw n) cx), VSl w4 (pw n) (wedgeL P sq (vecTo n ys n) xs), VIs (.bool true), VIs (.bool true), VIs (.int .i64 0)] (fun w' => Blk w' w.heap.size 26 #[.int .i64 P, .slice A n c] ∧ Below w4.heap.size w4 w') (by kernel_rfl) (by kernel_rfl) (fun _ _ h hb => ⟨h.1.below hb h.1.lt, h.2.trans (hb.mono h.2.size)⟩) (⟨k4.drew, (Below.refl _ _).drew⟩) (fun x => ?_)
          refine obs_step (Eq.trans (by simp only [List.getElem?_toArray, List.getElem?_cons_zero]; exact rfl) rfl) rfl (fun w' hS hV K hK => ?_) ?_
          · obtain ⟨q0, q1⟩ := hS.1.two
            go_simp
            exact hK.out _ _ _ rfl rfl rfl (Below.refl _ _)
          simp only [List.setIfInBounds_toArray, List.set_cons_zero, List.set_cons_succ]
          refine obs_step (Eq.trans (by simp only [List.getElem?_toArray, List.getElem?_cons_succ, List.getElem?_cons_zero]; exact rfl) rfl) rfl (fun w' hS hV K hK => ?_) ?_
          · obtain ⟨q0, q1⟩ := hS.1.two
            go_simp
            exact hK.out _ _ _ rfl rfl rfl (Below.refl _ _)
          simp only [List.setIfInBounds_toArray, List.set_cons_zero, List.set_cons_succ]
          refine obs_step (Eq.trans (by simp only [List.getElem?_toArray, List.getElem?_cons_succ, List.getElem?_cons_zero]; exact rfl) rfl) rfl (fun w' hS hV K hK => ?_) ?_
          · obtain ⟨q0, q1⟩ := hS.1.two
            go_simp
            exact hK.out _ _ _ rfl rfl rfl (Below.refl _ _)
          simp only [List.setIfInBounds_toArray, List.set_cons_zero, List.set_cons_succ]
          refine obs_step (Eq.trans (by simp only [List.getElem?_toArray, List.getElem?_cons_succ, List.getElem?_cons_zero]; exact rfl) rfl) rfl (fun w' hS hV K hK => ?_) ?_
          · have e1 : x 1 = (.agg #[.int .i64 P, .slice A n c]) := hV 1 (by decide)
            have e2 : x 2 = (.slice Y n cy) := hV 2 (by decide)
            obtain ⟨q0, q1⟩ := hS.1.two
            go_simp
            refine (vector_any P A n c _ _ ys _ (by omega) (HY.out.below hS.2)).mono ?_
            rintro e v1 ⟨A2, c2, rfl, hM⟩
            exact hK.out _ _ _ rfl rfl ⟨_, _, rfl, hM.after hS.2⟩ hM.b
          simp only [List.setIfInBounds_toArray, List.set_cons_zero, List.set_cons_succ]
          refine obs_step (Eq.trans (by simp only [List.getElem?_toArray, List.getElem?_cons_succ, List.getElem?_cons_zero]; exact rfl) rfl) rfl (fun w' hS hV K hK => ?_) ?_
          · obtain ⟨q0, q1⟩ := hS.1.two
            go_simp
            exact hK.out _ _ _ rfl rfl rfl (Below.refl _ _)
          simp only [List.setIfInBounds_toArray, List.set_cons_zero, List.set_cons_succ]
          refine obs_step (Eq.trans (by simp only [List.getElem?_toArray, List.getElem?_cons_succ, List.getElem?_cons_zero]; exact rfl) rfl) rfl (fun w' hS hV K hK => ?_) ?_
          · have e0 : x 0 = (.agg #[.int .i64 P, .slice A n c]) := hV 0 (by decide)
            have e1 : x 1 = (.agg #[.int .i64 P, .slice A n c]) := hV 1 (by decide)
            have e2 : x 2 = (.slice Y n cy) := hV 2 (by decide)
            obtain ⟨A3, c3, e3, h3⟩ := hV 3 (by decide)
            have e4 : x 4 = (.slice X (pw n) cx) := hV 4 (by decide)
            obtain ⟨q0, q1⟩ := hS.1.two
            go_simp
            refine (wedge_any P A n c sq _ _ (vecTo n ys n) _ _ xs _ hp hp2 hn6 (HA.out.below hS.2) HS0.out h3.rd (vecTo_nums (by omega) n _ HYS.out n) (HX.out.below hS.2) HXS.out).mono ?_
            rintro e v1 ⟨A2, c2, rfl, hM⟩
            exact hK.out _ _ _ rfl rfl ⟨_, _, rfl, hM.after hS.2⟩ hM.b
          simp only [List.setIfInBounds_toArray, List.set_cons_zero, List.set_cons_succ]
          refine obs_step (Eq.trans (by simp only [List.getElem?_toArray, List.getElem?_cons_succ, List.getElem?_cons_zero]; exact rfl) rfl) rfl (fun w' hS hV K hK => ?_) ?_
          · have e0 : x 0 = (.agg #[.int .i64 P, .slice A n c]) := hV 0 (by decide)
            have e1 : x 1 = (.agg #[.int .i64 P, .slice A n c]) := hV 1 (by decide)
            have e2 : x 2 = (.slice Y n cy) := hV 2 (by decide)
            obtain ⟨A3, c3, e3, h3⟩ := hV 3 (by decide)
            have e4 : x 4 = (.slice X (pw n) cx) := hV 4 (by decide)
            obtain ⟨A5, c5, e5, h5⟩ := hV 5 (by decide)
            obtain ⟨q0, q1⟩ := hS.1.two
            go_simp
            refine (isZero_any _ _ _ _ _ (by omega) h5.rd).mono ?_
            rw [HZZ.out]
            rintro e v1 ⟨rfl, rfl⟩
            exact hK.out _ _ _ rfl rfl rfl (Below.refl _ _)
          simp only [List.setIfInBounds_toArray, List.set_cons_zero, List.set_cons_succ]
          refine obs_step (Eq.trans (by simp only [List.getElem?_toArray, List.getElem?_cons_succ, List.getElem?_cons_zero]; exact rfl) rfl) rfl (fun w' hS hV K hK => ?_) ?_
          · have e0 : x 0 = (.agg #[.int .i64 P, .slice A n c]) := hV 0 (by decide)
            have e1 : x 1 = (.agg #[.int .i64 P, .slice A n c]) := hV 1 (by decide)
            have e2 : x 2 = (.slice Y n cy) := hV 2 (by decide)
            obtain ⟨A3, c3, e3, h3⟩ := hV 3 (by decide)
            have e4 : x 4 = (.slice X (pw n) cx) := hV 4 (by decide)
            obtain ⟨A5, c5, e5, h5⟩ := hV 5 (by decide)
            have e6 : x 6 = (.bool true) := hV 6 (by decide)
            obtain ⟨q0, q1⟩ := hS.1.two
            go_simp
            exact hK.out _ _ _ rfl rfl rfl (Below.refl _ _)
          simp only [List.setIfInBounds_toArray, List.set_cons_zero, List.set_cons_succ]
          refine obs_step (Eq.trans (by simp only [List.getElem?_toArray, List.getElem?_cons_succ, List.getElem?_cons_zero]; exact rfl) rfl) rfl (fun w' hS hV K hK => ?_) ?_
          · obtain ⟨q0, q1⟩ := hS.1.two
            go_simp
            exact hK.out _ _ _ rfl rfl rfl (Below.refl _ _)
          simp only [List.setIfInBounds_toArray, List.set_cons_zero, List.set_cons_succ]
          refine fun w' hS hV => ?_
          have e0 : x 0 = (.agg #[.int .i64 P, .slice A n c]) := hV 0 (by decide)
          have e1 : x 1 = (.agg #[.int .i64 P, .slice A n c]) := hV 1 (by decide)
          have e2 : x 2 = (.slice Y n cy) := hV 2 (by decide)
          obtain ⟨A3, c3, e3, h3⟩ := hV 3 (by decide)
          have e4 : x 4 = (.slice X (pw n) cx) := hV 4 (by decide)
          obtain ⟨A5, c5, e5, h5⟩ := hV 5 (by decide)
          have e6 : x 6 = (.bool true) := hV 6 (by decide)
          have e7 : x 7 = (.bool true) := hV 7 (by decide)
          have e8 : x 8 = (.int .i64 0) := hV 8 (by decide)
          simp only [e0, e1, e2, e3, e4, e5, e6, e7, e8]
          clear e0 e1 e2 e3 e4 e5 e6 e7 e8
          refine wpAny_done (by kernel_rfl) ?_ _
          go_wp2
          go_ret2
          exact ⟨ret_bi3 (by rw [HOK.out, HZZ.out]), hB4.trans (hS.2.mono hB4.size)⟩
  · have HCN := Lib.hid (codeLv_ne (v := ys) hcM)
    obtain ⟨r, hr⟩ : ∃ r, r = codeM P sq [xs] := ⟨_, rfl⟩
    have HC5 : Hid (¬ codeLv P sq xs ys = 0 ∧ codeLv P sq xs ys = r) := Lib.hid (by rw [HCN.out, hr]; exact ⟨hcM, rfl⟩)
    have b0 : (r != 0) = true := code_ne (by rw [hr]; exact hcM)
    rw [← hr] at hreg
    clear hr hcM
    go_enter Tryz.func82, Tryz.ntmps82
    go_wp2_with fail
    refine hreg.mono ?_
    rintro e w2 ⟨rfl, hb2⟩
    have hB2 := hB1.trans (hb2.mono hB1.size)
    have k2 := k1.below hb2 k1.lt
    obtain ⟨q0, q1⟩ := k2.two
    clear k0 hB0 k1 hB1 hb2
    go_wp2
    go_ret2
    exact ⟨ret_bi3 (by rw [contR_bad HC5.out.1, HC5.out.2]), hB2⟩
end Go.Proofs.YtggigolkncckoaaGreat
namespace Go.Proofs.YtggigolkncckoaaGreat
open Go.RowKit
theorem sumTo_169 {n : Nat} {f : Nat → Int} (h : ∀ i, i < n → 0 ≤ f i ∧ f i ≤ 169) : 0 ≤ sumTo n f ∧ sumTo n f ≤ 169 * (n : Int) := by
  induction n with
  | zero => simp [sumTo]
  | succ n ih =>
    obtain ⟨a, b⟩ := ih fun i hi => h i (by omega)
    obtain ⟨c, d⟩ := h n (by omega)
    rw [sumTo_succ]
    omega
set_option maxHeartbeats 800000 in
theorem dot_any (p : Int) (A : Option Addr) (n c : Nat) (B : Option Addr) (m d : Nat) (xs ys : List Int) (w : World) (hp : 2 ≤ p) (hp2 : p ≤ 13) (hn : n ≤ 65536) (hnm : n ≤ m) (ha : Rd w A n (ints xs)) (hx : NumsL p xs) (hb : Rd w B m (ints ys)) (hy : NumsL p ys) :
    Calls Tryz.prog 321 #[.int .i64 p, .slice A n c, .slice B m d] w fun e w' => e = .returned (.int .i64 (dotL p xs ys)) ∧ w = w' := by
  have hxl := ha.lenI
  have hyl := hb.lenI
  have hsb : Hid (∀ j, j ≤ n → 0 ≤ (sumTo j fun i => xs.getD i 0 * ys.getD i 0) ∧ (sumTo j fun i => xs.getD i 0 * ys.getD i 0) ≤ 169 * (j : Int)) := Lib.hid (fun j hj => sumTo_169 (n := j) (f := fun i => xs.getD i 0 * ys.getD i 0) fun i hi => by
    show 0 ≤ xs.getD i 0 * ys.getD i 0 ∧ xs.getD i 0 * ys.getD i 0 ≤ 169
    have h1 : i < xs.length := by omega
    have h2 : i < ys.length := by omega
    rw [getD_of_lt 0 h1, getD_of_lt 0 h2]
    obtain ⟨a1, a2⟩ := hx _ (List.getElem_mem h1)
    obtain ⟨b1, b2⟩ := hy _ (List.getElem_mem h2)
    exact mul_small a1 (show xs[i] ≤ 13 by omega) b1 (show ys[i] ≤ 13 by omega))
  have Hx := Lib.hid hxl
  clear hxl hyl
  go_enter Tryz.func321, Tryz.ntmps321
  go_wp2
  go_loopw [7, 8, 9, 12] (fun s _ _ i wr => ∃ j : Nat, j ≤ n ∧ i = .int .i64 j ∧ s = .int .i64 (sumTo j fun i => xs.getD i 0 * ys.getD i 0) ∧ wr = w) (fun _ _ _ i _ => n - (intOf i).toNat)
  case atStart => exact ⟨0, by omega, rfl, rfl, rfl⟩
  case round =>
    obtain ⟨j, hj, rfl, rfl, rfl⟩ := hrel
    obtain ⟨b1, b2⟩ := hsb.out j hj
    have hsucc : Hid ((sumTo (j + 1) fun i => xs.getD i 0 * ys.getD i 0) = (sumTo j fun i => xs.getD i 0 * ys.getD i 0) + xs.getD j 0 * ys.getD j 0) := Lib.hid (sumTo_succ _ _)
    have hdot : Hid (j = n → dotL p xs ys = (sumTo j fun i => xs.getD i 0 * ys.getD i 0) % p) := Lib.hid (fun h => by unfold dotL; rw [Hx.out, h])
    obtain ⟨s, hs⟩ : ∃ s, s = sumTo j fun i => xs.getD i 0 * ys.getD i 0 := ⟨_, rfl⟩
    rw [← hs] at b1 b2 hsucc hdot ⊢
    clear hs
    by_cases hlt : j < n
    · obtain ⟨g, o, rfl, hxj, hcx⟩ := ha.int hlt
      obtain ⟨g2, o2, rfl, hyj, hcy⟩ := hb.int (show j < m by omega)
      obtain ⟨x1, x2⟩ := hx _ (List.getElem_mem hxj)
      obtain ⟨y1, y2⟩ := hy _ (List.getElem_mem hyj)
      obtain ⟨m1, m2⟩ := mul_small x1 (show xs[j] ≤ 13 by omega) y1 (show ys[j] ≤ 13 by omega)
      have HV : Hid ((sumTo (j + 1) fun i => xs.getD i 0 * ys.getD i 0) = s + xs[j] * ys[j]) := Lib.hid (by rw [hsucc.out, getD_of_lt 0 hxj, getD_of_lt 0 hyj])
      clear ha hb
      go_wp2
      go_roundw
      case rel => exact ⟨j + 1, by omega, by go_num, by rw [HV.out], trivial⟩
      case measure => simp [intOf]; omega
    · go_wp2_with fail
      refine (num_any p s _ (by omega) hp2 (by omega) (by omega)).mono ?_
      rintro e w' ⟨rfl, rfl⟩
      go_wp2
      go_ret
      exact ⟨ret_int (hdot.out (by omega)).symm, rfl⟩
end Go.Proofs.YtggigolkncckoaaGreat

/-
  Blades: whether a multivector is one; codes. The program's functions and the reference's.
-/
import Derived.Test.YtommppijnccomaaGreatSub
import Derived.Test.YtommppijnccomaaGreatVers2
import Derived.Test.YtommppijnccomaaGreatCodes
namespace Go.Proofs.YtommppijnccomaaGreat
open Go.RowKit

theorem lengthS_any (A : Option Addr) (n c : Nat) (w : World) :
    Calls Tryz.prog 96 #[.slice A n c] w fun e w' => e = .returned (.int .i64 n) ∧ w = w' := by
  go_enter Tryz.func96, Tryz.ntmps96
  go_wp2
  go_ret
  exact ⟨rfl, rfl⟩

theorem isMu_spec3 {P : Int} {sq ys : List Int} (h : isMu P sq ys = true) : ys.length = pw sq.length ∧ NumsL P ys := by
  unfold isMu at h
  simp only [Bool.and_eq_true, beq_iff_eq] at h
  exact ⟨by have := h.1; omega, nums_numsL h.2⟩
theorem isVe_spec3 {P : Int} {sq ys : List Int} (h : isVe P sq ys = true) : ys.length = sq.length ∧ NumsL P ys := by
  unfold isVe at h
  simp only [Bool.and_eq_true, beq_iff_eq] at h
  exact ⟨by have := h.1; omega, nums_numsL h.2⟩
theorem codeM_spec3 {P : Int} {sq : List Int} {ms : List (List Int)} (h : codeM P sq ms = 0) : isP P = true ∧ 2 ≤ P ∧ P ≤ 13 ∧ 1 ≤ sq.length ∧ sq.length ≤ 6 ∧ NumsL P sq ∧ ∀ ys ∈ ms, ys.length = pw sq.length ∧ NumsL P ys := by
  obtain ⟨h1, h2⟩ := codeM_sp h
  obtain ⟨hp, hd1, hd2, hnum⟩ := isSp_dim h1
  have := isP_ge hp
  exact ⟨hp, by omega, by omega, hd1, hd2, nums_numsL hnum, fun ys hy => isMu_spec3 (h2 ys hy)⟩
/-- Is it a blade of vectors? -/
def isBl (P : Int) (sq : List Int) (n : Nat) (xs : List Int) : Bool := decide ((gradesL xs).length = 1) && decide ((((subL P sq n xs).length : Nat) : Int) = (gradesL xs).getD 0 0)
/-- The code of a space and blades. -/
def codeL (P : Int) (sq : List Int) (ms : List (List Int)) : Int := if codeM P sq ms = 0 then (if ms.all (isBl P sq sq.length) then 0 else 5) else codeM P sq ms
theorem codeL_zero {P : Int} {sq : List Int} {ms : List (List Int)} (h : codeL P sq ms = 0) : codeM P sq ms = 0 ∧ ms.all (isBl P sq sq.length) = true := by
  unfold codeL at h
  by_cases h1 : codeM P sq ms = 0
  · rw [if_pos h1] at h
    by_cases h2 : ms.all (isBl P sq sq.length) = true
    · exact ⟨h1, h2⟩
    · rw [if_neg h2] at h; exact absurd h (by omega)
  · rw [if_neg h1] at h; exact absurd h h1
theorem codeL_bad {P : Int} {sq : List Int} {ms : List (List Int)} (h : codeM P sq ms = 0) {xs : List Int} (hm : xs ∈ ms) (hx : isBl P sq sq.length xs = false) : codeL P sq ms = 5 := by
  unfold codeL
  rw [if_pos h, if_neg]
  intro hall
  have := List.all_eq_true.1 hall xs hm
  rw [hx] at this
  cases this
theorem codeL_good {P : Int} {sq : List Int} {ms : List (List Int)} (h : codeM P sq ms = 0) (hall : ms.all (isBl P sq sq.length) = true) : codeL P sq ms = 0 := by
  unfold codeL
  rw [if_pos h, if_pos hall]
theorem codeL_ne {P : Int} {sq : List Int} {ms : List (List Int)} (h : ¬ codeM P sq ms = 0) : codeL P sq ms = codeM P sq ms := by
  unfold codeL
  rw [if_neg h]
theorem all_take3 {α : Type} {f : α → Bool} {xs : List α} {k : Nat} (hk : k < xs.length) (h : (xs.take k).all f = true) (hf : f xs[k] = true) : (xs.take (k + 1)).all f = true := by
  rw [List.take_succ_eq_append_getElem hk, List.all_append, h]
  simp [hf]
/-- A multivector, a vector: the code of a blade and a vector. -/
def codeLv (P : Int) (sq xs v : List Int) : Int := if codeM P sq [xs] = 0 then (if isVe P sq v then (if isBl P sq sq.length xs then 0 else 5) else 2) else codeM P sq [xs]
theorem codeLv_zero {P : Int} {sq xs v : List Int} (h : codeLv P sq xs v = 0) : codeM P sq [xs] = 0 ∧ isVe P sq v = true ∧ isBl P sq sq.length xs = true := by
  unfold codeLv at h
  by_cases h1 : codeM P sq [xs] = 0
  · rw [if_pos h1] at h
    cases h2 : isVe P sq v
    · rw [h2] at h; simp at h
    · rw [h2, if_pos rfl] at h
      cases h3 : isBl P sq sq.length xs
      · rw [h3] at h; simp at h
      · exact ⟨h1, rfl, rfl⟩
  · rw [if_neg h1] at h; exact absurd h h1

set_option maxHeartbeats 3200000 in
set_option maxRecDepth 8000 in
theorem isBlade_any (P : Int) (A : Option Addr) (n c : Nat) (sq : List Int) (X : Option Addr) (cx : Nat) (xs : List Int) (w : World) (HP : isP P = true) (hn : n ≤ 6) (h0 : 0 < n) (ha : Rd w A n (ints sq)) (hs : NumsL P sq) (hx : Rd w X (pw n) (ints xs)) (hxs : NumsL P xs) :
    Calls Tryz.prog 54 #[.agg #[.int .i64 P, .slice A n c], .slice X (pw n) cx] w fun e w' => e = .returned (.bool (isBl P sq n xs)) ∧ Below w.heap.size w w' := by
  obtain ⟨hp3, hp2⟩ := isP_ge HP
  have hp : 2 ≤ P := by omega
  have hpn := pw_pos n
  have hpw : pw n ≤ 64 := pw_le hn
  have hB0 : Below w.heap.size w (w.alloc (.cells #[.int .i64 P, .slice A n c] 28)) := (Below.refl _ _).alloc (Nat.le_refl _) _
  have k0 : Blk (w.alloc (.cells #[.int .i64 P, .slice A n c] 28)) w.heap.size 28 #[.int .i64 P, .slice A n c] := Blk.new _ _ _
  have hgl := gradesL_len xs
  have hsl := subL_len HP sq n xs
  have hsub := fun w' (hb : Below w.heap.size w w') => subspace_any P A n c sq X cx xs w' HP hn h0 (ha.below hb) hs (hx.below hb) hxs
  have HSUB := Lib.hid hsub
  clear hsub
  obtain ⟨q0, q1⟩ := k0.two
  go_enter Tryz.func54, Tryz.ntmps54
  go_wp2_with fail
  refine (gradesOf_any X (pw n) cx xs _ hpw (hx.below hB0)).mono ?_
  rintro e w1 ⟨G, cg, rfl, hG⟩
  have k1 := k0.below hG.b k0.lt
  have hB1 := hB0.trans (hG.b.mono hB0.size)
  have HGL : Hid ((isBl P sq n xs) = (decide ((gradesL xs).length = 1) && decide ((((subL P sq n xs).length : Nat) : Int) = (gradesL xs).getD 0 0))) := Lib.hid rfl
  have hgr := hG.rd
  obtain ⟨L, hL⟩ : ∃ L, L = gradesL xs := ⟨_, rfl⟩
  rw [← hL] at hgr hgl HGL ⊢
  obtain ⟨q, hq⟩ : ∃ q, q = (subL P sq n xs).length := ⟨_, rfl⟩
  have HQ := Lib.hid hq
  rw [← hq] at HGL hsl
  obtain ⟨m, hm⟩ : ∃ m, m = L.length := ⟨_, rfl⟩
  rw [← hm] at hgr hgl HGL ⊢
  clear k0 hB0 q0 q1 hG hL hq
  have HM := Lib.hid hm
  by_cases h1 : m = 1
  · obtain ⟨gg, og, rfl, hg0, hcg⟩ := hgr.int (show 0 < m by omega)
    have HG0 : Hid (L.getD 0 0 = L[0]) := Lib.hid (getD_of_lt 0 hg0)
    rw [Nat.add_zero] at hcg
    obtain ⟨gv, hgv⟩ : ∃ v, v = L[0] := ⟨_, rfl⟩
    rw [← hgv] at hcg HG0
    clear hgv hg0 hgr hm
    have HZ0 : Hid (isBl P sq n xs = (((q : Nat) : Int) == gv)) := Lib.hid (by rw [HGL.out, HG0.out, h1, Bool.eq_iff_iff]; simp)
    cases hz : (((q : Nat) : Int) == gv)
    all_goals
      have HZ := Lib.hid (HZ0.out.trans hz)
      subst h1
    · go_wp2
      refine wp_obs 14 [[], [0], [0, 1], [0, 1, 2], [0, 1, 2, 3], [0, 1, 2, 3], [0, 1, 2, 3, 4, 5], [0, 1, 2, 3, 4, 5, 6], [0, 1, 2, 3], [0, 1, 2, 3, 8], [0, 1, 2, 3, 8, 9], [0, 1, 2, 3, 4, 5, 6, 7, 8, 9, 10], [0, 1, 2, 3, 4, 5, 6, 7, 8, 9, 10, 11], [0, 1, 2, 3, 4, 5, 6, 7, 8, 9, 10, 11, 12]] [VIs (.slice (some ⟨gg, og, none⟩) 1 cg), VIs (.int .i64 ((1 : Nat))), VIs (.bool true), VIs (.bool true), VIs (.agg #[.int .i64 P, .slice A n c]), VIs (.slice X (pw n) cx), VMat w q (subL P sq n xs), VIs (.int .i64 (q)), VIs (.slice (some ⟨gg, og, none⟩) 1 cg), VIs (.pointer (some ⟨gg, og, none⟩)), VIs (.int .i64 (gv)), VIs (.bool false), VIs (.bool false), VIs (.bool false)] (fun w' => w'.cell? ⟨gg, og, none⟩ = some (.int .i64 gv) ∧ Blk w' w.heap.size 28 #[.int .i64 P, .slice A n c] ∧ Below w.heap.size w w') (by kernel_rfl) (by kernel_rfl) (fun _ _ h hb => ⟨(hb.cell (World.block_lt_of_cell? _ _ h.1)).trans h.1, h.2.1.below hb h.2.1.lt, h.2.2.trans (hb.mono h.2.2.size)⟩) (⟨hcg, k1.drew, hB1.drew⟩) (fun x => ?_)
      refine obs_step (Eq.trans (by simp only [List.getElem?_toArray, List.getElem?_cons_zero]; exact rfl) rfl) rfl (fun w' hS hV K hK => ?_) ?_
      · have q2 := hS.1; obtain ⟨q0, q1⟩ := hS.2.1.two
        go_simp
        exact hK.out _ _ _ rfl rfl rfl (Below.refl _ _)
      simp only [List.setIfInBounds_toArray, List.set_cons_zero, List.set_cons_succ]
      refine obs_step (Eq.trans (by simp only [List.getElem?_toArray, List.getElem?_cons_succ, List.getElem?_cons_zero]; exact rfl) rfl) rfl (fun w' hS hV K hK => ?_) ?_
      · have e0 : x 0 = (.slice (some ⟨gg, og, none⟩) 1 cg) := hV 0 (by decide)
        have q2 := hS.1; obtain ⟨q0, q1⟩ := hS.2.1.two
        go_simp
        exact hK.out _ _ _ rfl rfl rfl (Below.refl _ _)
      simp only [List.setIfInBounds_toArray, List.set_cons_zero, List.set_cons_succ]
      refine obs_step (Eq.trans (by simp only [List.getElem?_toArray, List.getElem?_cons_succ, List.getElem?_cons_zero]; exact rfl) rfl) rfl (fun w' hS hV K hK => ?_) ?_
      · have e0 : x 0 = (.slice (some ⟨gg, og, none⟩) 1 cg) := hV 0 (by decide)
        have e1 : x 1 = (.int .i64 ((1 : Nat))) := hV 1 (by decide)
        have q2 := hS.1; obtain ⟨q0, q1⟩ := hS.2.1.two
        go_simp
        exact hK.out _ _ _ rfl rfl rfl (Below.refl _ _)
      simp only [List.setIfInBounds_toArray, List.set_cons_zero, List.set_cons_succ]
      refine obs_step (Eq.trans (by simp only [List.getElem?_toArray, List.getElem?_cons_succ, List.getElem?_cons_zero]; exact rfl) rfl) rfl (fun w' hS hV K hK => ?_) ?_
      · have e0 : x 0 = (.slice (some ⟨gg, og, none⟩) 1 cg) := hV 0 (by decide)
        have e1 : x 1 = (.int .i64 ((1 : Nat))) := hV 1 (by decide)
        have e2 : x 2 = (.bool true) := hV 2 (by decide)
        have q2 := hS.1; obtain ⟨q0, q1⟩ := hS.2.1.two
        go_simp
        exact hK.out _ _ _ rfl rfl rfl (Below.refl _ _)
      simp only [List.setIfInBounds_toArray, List.set_cons_zero, List.set_cons_succ]
      refine obs_step (Eq.trans (by simp only [List.getElem?_toArray, List.getElem?_cons_succ, List.getElem?_cons_zero]; exact rfl) rfl) rfl (fun w' hS hV K hK => ?_) ?_
      · have e0 : x 0 = (.slice (some ⟨gg, og, none⟩) 1 cg) := hV 0 (by decide)
        have e1 : x 1 = (.int .i64 ((1 : Nat))) := hV 1 (by decide)
        have e2 : x 2 = (.bool true) := hV 2 (by decide)
        have e3 : x 3 = (.bool true) := hV 3 (by decide)
        have q2 := hS.1; obtain ⟨q0, q1⟩ := hS.2.1.two
        go_simp
        exact hK.out _ _ _ rfl rfl rfl (Below.refl _ _)
      simp only [List.setIfInBounds_toArray, List.set_cons_zero, List.set_cons_succ]
      refine obs_step (Eq.trans (by simp only [List.getElem?_toArray, List.getElem?_cons_succ, List.getElem?_cons_zero]; exact rfl) rfl) rfl (fun w' hS hV K hK => ?_) ?_
      · have e0 : x 0 = (.slice (some ⟨gg, og, none⟩) 1 cg) := hV 0 (by decide)
        have e1 : x 1 = (.int .i64 ((1 : Nat))) := hV 1 (by decide)
        have e2 : x 2 = (.bool true) := hV 2 (by decide)
        have e3 : x 3 = (.bool true) := hV 3 (by decide)
        have q2 := hS.1; obtain ⟨q0, q1⟩ := hS.2.1.two
        go_simp
        exact hK.out _ _ _ rfl rfl rfl (Below.refl _ _)
      simp only [List.setIfInBounds_toArray, List.set_cons_zero, List.set_cons_succ]
      refine obs_step (Eq.trans (by simp only [List.getElem?_toArray, List.getElem?_cons_succ, List.getElem?_cons_zero]; exact rfl) rfl) rfl (fun w' hS hV K hK => ?_) ?_
      · have e0 : x 0 = (.slice (some ⟨gg, og, none⟩) 1 cg) := hV 0 (by decide)
        have e1 : x 1 = (.int .i64 ((1 : Nat))) := hV 1 (by decide)
        have e2 : x 2 = (.bool true) := hV 2 (by decide)
        have e3 : x 3 = (.bool true) := hV 3 (by decide)
        have e4 : x 4 = (.agg #[.int .i64 P, .slice A n c]) := hV 4 (by decide)
        have e5 : x 5 = (.slice X (pw n) cx) := hV 5 (by decide)
        have q2 := hS.1; obtain ⟨q0, q1⟩ := hS.2.1.two
        go_simp
        refine (HSUB.out _ hS.2.2).mono ?_
        rw [← HQ.out]
        rintro e v1 ⟨A2, c2, rfl, hM⟩
        exact hK.out _ _ _ rfl rfl ⟨_, _, rfl, hM.after hS.2.2⟩ hM.b
      simp only [List.setIfInBounds_toArray, List.set_cons_zero, List.set_cons_succ]
      refine obs_step (Eq.trans (by simp only [List.getElem?_toArray, List.getElem?_cons_succ, List.getElem?_cons_zero]; exact rfl) rfl) rfl (fun w' hS hV K hK => ?_) ?_
      · have e0 : x 0 = (.slice (some ⟨gg, og, none⟩) 1 cg) := hV 0 (by decide)
        have e1 : x 1 = (.int .i64 ((1 : Nat))) := hV 1 (by decide)
        have e2 : x 2 = (.bool true) := hV 2 (by decide)
        have e3 : x 3 = (.bool true) := hV 3 (by decide)
        have e4 : x 4 = (.agg #[.int .i64 P, .slice A n c]) := hV 4 (by decide)
        have e5 : x 5 = (.slice X (pw n) cx) := hV 5 (by decide)
        obtain ⟨A6, c6, e6, h6⟩ := hV 6 (by decide)
        have q2 := hS.1; obtain ⟨q0, q1⟩ := hS.2.1.two
        go_simp
        refine (lengthS_any _ _ _ _).mono ?_
        rintro e v1 ⟨rfl, rfl⟩
        exact hK.out _ _ _ rfl rfl rfl (Below.refl _ _)
      simp only [List.setIfInBounds_toArray, List.set_cons_zero, List.set_cons_succ]
      refine obs_step (Eq.trans (by simp only [List.getElem?_toArray, List.getElem?_cons_succ, List.getElem?_cons_zero]; exact rfl) rfl) rfl (fun w' hS hV K hK => ?_) ?_
      · have e0 : x 0 = (.slice (some ⟨gg, og, none⟩) 1 cg) := hV 0 (by decide)
        have e1 : x 1 = (.int .i64 ((1 : Nat))) := hV 1 (by decide)
        have e2 : x 2 = (.bool true) := hV 2 (by decide)
        have e3 : x 3 = (.bool true) := hV 3 (by decide)
        have q2 := hS.1; obtain ⟨q0, q1⟩ := hS.2.1.two
        go_simp
        exact hK.out _ _ _ rfl rfl rfl (Below.refl _ _)
      simp only [List.setIfInBounds_toArray, List.set_cons_zero, List.set_cons_succ]
      refine obs_step (Eq.trans (by simp only [List.getElem?_toArray, List.getElem?_cons_succ, List.getElem?_cons_zero]; exact rfl) rfl) rfl (fun w' hS hV K hK => ?_) ?_
      · have e0 : x 0 = (.slice (some ⟨gg, og, none⟩) 1 cg) := hV 0 (by decide)
        have e1 : x 1 = (.int .i64 ((1 : Nat))) := hV 1 (by decide)
        have e2 : x 2 = (.bool true) := hV 2 (by decide)
        have e3 : x 3 = (.bool true) := hV 3 (by decide)
        have e8 : x 8 = (.slice (some ⟨gg, og, none⟩) 1 cg) := hV 8 (by decide)
        have q2 := hS.1; obtain ⟨q0, q1⟩ := hS.2.1.two
        go_simp
        exact hK.out _ _ _ rfl rfl rfl (Below.refl _ _)
      simp only [List.setIfInBounds_toArray, List.set_cons_zero, List.set_cons_succ]
      refine obs_step (Eq.trans (by simp only [List.getElem?_toArray, List.getElem?_cons_succ, List.getElem?_cons_zero]; exact rfl) rfl) rfl (fun w' hS hV K hK => ?_) ?_
      · have e0 : x 0 = (.slice (some ⟨gg, og, none⟩) 1 cg) := hV 0 (by decide)
        have e1 : x 1 = (.int .i64 ((1 : Nat))) := hV 1 (by decide)
        have e2 : x 2 = (.bool true) := hV 2 (by decide)
        have e3 : x 3 = (.bool true) := hV 3 (by decide)
        have e8 : x 8 = (.slice (some ⟨gg, og, none⟩) 1 cg) := hV 8 (by decide)
        have e9 : x 9 = (.pointer (some ⟨gg, og, none⟩)) := hV 9 (by decide)
        have q2 := hS.1; obtain ⟨q0, q1⟩ := hS.2.1.two
        go_simp
        exact hK.out _ _ _ rfl rfl rfl (Below.refl _ _)
      simp only [List.setIfInBounds_toArray, List.set_cons_zero, List.set_cons_succ]
      refine obs_step (Eq.trans (by simp only [List.getElem?_toArray, List.getElem?_cons_succ, List.getElem?_cons_zero]; exact rfl) rfl) rfl (fun w' hS hV K hK => ?_) ?_
      · have e0 : x 0 = (.slice (some ⟨gg, og, none⟩) 1 cg) := hV 0 (by decide)
        have e1 : x 1 = (.int .i64 ((1 : Nat))) := hV 1 (by decide)
        have e2 : x 2 = (.bool true) := hV 2 (by decide)
        have e3 : x 3 = (.bool true) := hV 3 (by decide)
        have e4 : x 4 = (.agg #[.int .i64 P, .slice A n c]) := hV 4 (by decide)
        have e5 : x 5 = (.slice X (pw n) cx) := hV 5 (by decide)
        obtain ⟨A6, c6, e6, h6⟩ := hV 6 (by decide)
        have e7 : x 7 = (.int .i64 (q)) := hV 7 (by decide)
        have e8 : x 8 = (.slice (some ⟨gg, og, none⟩) 1 cg) := hV 8 (by decide)
        have e9 : x 9 = (.pointer (some ⟨gg, og, none⟩)) := hV 9 (by decide)
        have e10 : x 10 = (.int .i64 (gv)) := hV 10 (by decide)
        have q2 := hS.1; obtain ⟨q0, q1⟩ := hS.2.1.two
        go_simp
        exact hK.out _ _ _ rfl rfl rfl (Below.refl _ _)
      simp only [List.setIfInBounds_toArray, List.set_cons_zero, List.set_cons_succ]
      refine obs_step (Eq.trans (by simp only [List.getElem?_toArray, List.getElem?_cons_succ, List.getElem?_cons_zero]; exact rfl) rfl) rfl (fun w' hS hV K hK => ?_) ?_
      · have e0 : x 0 = (.slice (some ⟨gg, og, none⟩) 1 cg) := hV 0 (by decide)
        have e1 : x 1 = (.int .i64 ((1 : Nat))) := hV 1 (by decide)
        have e2 : x 2 = (.bool true) := hV 2 (by decide)
        have e3 : x 3 = (.bool true) := hV 3 (by decide)
        have e4 : x 4 = (.agg #[.int .i64 P, .slice A n c]) := hV 4 (by decide)
        have e5 : x 5 = (.slice X (pw n) cx) := hV 5 (by decide)
        obtain ⟨A6, c6, e6, h6⟩ := hV 6 (by decide)
        have e7 : x 7 = (.int .i64 (q)) := hV 7 (by decide)
        have e8 : x 8 = (.slice (some ⟨gg, og, none⟩) 1 cg) := hV 8 (by decide)
        have e9 : x 9 = (.pointer (some ⟨gg, og, none⟩)) := hV 9 (by decide)
        have e10 : x 10 = (.int .i64 (gv)) := hV 10 (by decide)
        have e11 : x 11 = (.bool false) := hV 11 (by decide)
        have q2 := hS.1; obtain ⟨q0, q1⟩ := hS.2.1.two
        go_simp
        exact hK.out _ _ _ rfl rfl rfl (Below.refl _ _)
      simp only [List.setIfInBounds_toArray, List.set_cons_zero, List.set_cons_succ]
      refine obs_step (Eq.trans (by simp only [List.getElem?_toArray, List.getElem?_cons_succ, List.getElem?_cons_zero]; exact rfl) rfl) rfl (fun w' hS hV K hK => ?_) ?_
      · have e0 : x 0 = (.slice (some ⟨gg, og, none⟩) 1 cg) := hV 0 (by decide)
        have e1 : x 1 = (.int .i64 ((1 : Nat))) := hV 1 (by decide)
        have e2 : x 2 = (.bool true) := hV 2 (by decide)
        have e3 : x 3 = (.bool true) := hV 3 (by decide)
        have e4 : x 4 = (.agg #[.int .i64 P, .slice A n c]) := hV 4 (by decide)
        have e5 : x 5 = (.slice X (pw n) cx) := hV 5 (by decide)
        obtain ⟨A6, c6, e6, h6⟩ := hV 6 (by decide)
        have e7 : x 7 = (.int .i64 (q)) := hV 7 (by decide)
        have e8 : x 8 = (.slice (some ⟨gg, og, none⟩) 1 cg) := hV 8 (by decide)
        have e9 : x 9 = (.pointer (some ⟨gg, og, none⟩)) := hV 9 (by decide)
        have e10 : x 10 = (.int .i64 (gv)) := hV 10 (by decide)
        have e11 : x 11 = (.bool false) := hV 11 (by decide)
        have e12 : x 12 = (.bool false) := hV 12 (by decide)
        have q2 := hS.1; obtain ⟨q0, q1⟩ := hS.2.1.two
        go_simp
        exact hK.out _ _ _ rfl rfl rfl (Below.refl _ _)
      simp only [List.setIfInBounds_toArray, List.set_cons_zero, List.set_cons_succ]
      refine fun w' hS hV => ?_
      have e0 : x 0 = (.slice (some ⟨gg, og, none⟩) 1 cg) := hV 0 (by decide)
      have e1 : x 1 = (.int .i64 ((1 : Nat))) := hV 1 (by decide)
      have e2 : x 2 = (.bool true) := hV 2 (by decide)
      have e3 : x 3 = (.bool true) := hV 3 (by decide)
      have e4 : x 4 = (.agg #[.int .i64 P, .slice A n c]) := hV 4 (by decide)
      have e5 : x 5 = (.slice X (pw n) cx) := hV 5 (by decide)
      obtain ⟨A6, c6, e6, h6⟩ := hV 6 (by decide)
      have e7 : x 7 = (.int .i64 (q)) := hV 7 (by decide)
      have e8 : x 8 = (.slice (some ⟨gg, og, none⟩) 1 cg) := hV 8 (by decide)
      have e9 : x 9 = (.pointer (some ⟨gg, og, none⟩)) := hV 9 (by decide)
      have e10 : x 10 = (.int .i64 (gv)) := hV 10 (by decide)
      have e11 : x 11 = (.bool false) := hV 11 (by decide)
      have e12 : x 12 = (.bool false) := hV 12 (by decide)
      have e13 : x 13 = (.bool false) := hV 13 (by decide)
      simp only [e0, e1, e2, e3, e4, e5, e6, e7, e8, e9, e10, e11, e12, e13]
      clear e0 e1 e2 e3 e4 e5 e6 e7 e8 e9 e10 e11 e12 e13
      refine wpAny_done (by kernel_rfl) ?_ _
      go_wp2
      go_ret
      exact ⟨ret_bool HZ.out.symm, hS.2.2⟩
    · go_wp2
      refine wp_obs 14 [[], [0], [0, 1], [0, 1, 2], [0, 1, 2, 3], [0, 1, 2, 3], [0, 1, 2, 3, 4, 5], [0, 1, 2, 3, 4, 5, 6], [0, 1, 2, 3], [0, 1, 2, 3, 8], [0, 1, 2, 3, 8, 9], [0, 1, 2, 3, 4, 5, 6, 7, 8, 9, 10], [0, 1, 2, 3, 4, 5, 6, 7, 8, 9, 10, 11], [0, 1, 2, 3, 4, 5, 6, 7, 8, 9, 10, 11, 12]] [VIs (.slice (some ⟨gg, og, none⟩) 1 cg), VIs (.int .i64 ((1 : Nat))), VIs (.bool true), VIs (.bool true), VIs (.agg #[.int .i64 P, .slice A n c]), VIs (.slice X (pw n) cx), VMat w q (subL P sq n xs), VIs (.int .i64 (q)), VIs (.slice (some ⟨gg, og, none⟩) 1 cg), VIs (.pointer (some ⟨gg, og, none⟩)), VIs (.int .i64 (gv)), VIs (.bool true), VIs (.bool true), VIs (.bool true)] (fun w' => w'.cell? ⟨gg, og, none⟩ = some (.int .i64 gv) ∧ Blk w' w.heap.size 28 #[.int .i64 P, .slice A n c] ∧ Below w.heap.size w w') (by kernel_rfl) (by kernel_rfl) (fun _ _ h hb => ⟨(hb.cell (World.block_lt_of_cell? _ _ h.1)).trans h.1, h.2.1.below hb h.2.1.lt, h.2.2.trans (hb.mono h.2.2.size)⟩) (⟨hcg, k1.drew, hB1.drew⟩) (fun x => ?_)
      refine obs_step (Eq.trans (by simp only [List.getElem?_toArray, List.getElem?_cons_zero]; exact rfl) rfl) rfl (fun w' hS hV K hK => ?_) ?_
      · have q2 := hS.1; obtain ⟨q0, q1⟩ := hS.2.1.two
        go_simp
        exact hK.out _ _ _ rfl rfl rfl (Below.refl _ _)
      simp only [List.setIfInBounds_toArray, List.set_cons_zero, List.set_cons_succ]
      refine obs_step (Eq.trans (by simp only [List.getElem?_toArray, List.getElem?_cons_succ, List.getElem?_cons_zero]; exact rfl) rfl) rfl (fun w' hS hV K hK => ?_) ?_
      · have e0 : x 0 = (.slice (some ⟨gg, og, none⟩) 1 cg) := hV 0 (by decide)
        have q2 := hS.1; obtain ⟨q0, q1⟩ := hS.2.1.two
        go_simp
        exact hK.out _ _ _ rfl rfl rfl (Below.refl _ _)
      simp only [List.setIfInBounds_toArray, List.set_cons_zero, List.set_cons_succ]
      refine obs_step (Eq.trans (by simp only [List.getElem?_toArray, List.getElem?_cons_succ, List.getElem?_cons_zero]; exact rfl) rfl) rfl (fun w' hS hV K hK => ?_) ?_
      · have e0 : x 0 = (.slice (some ⟨gg, og, none⟩) 1 cg) := hV 0 (by decide)
        have e1 : x 1 = (.int .i64 ((1 : Nat))) := hV 1 (by decide)
        have q2 := hS.1; obtain ⟨q0, q1⟩ := hS.2.1.two
        go_simp
        exact hK.out _ _ _ rfl rfl rfl (Below.refl _ _)
      simp only [List.setIfInBounds_toArray, List.set_cons_zero, List.set_cons_succ]
      refine obs_step (Eq.trans (by simp only [List.getElem?_toArray, List.getElem?_cons_succ, List.getElem?_cons_zero]; exact rfl) rfl) rfl (fun w' hS hV K hK => ?_) ?_
      · have e0 : x 0 = (.slice (some ⟨gg, og, none⟩) 1 cg) := hV 0 (by decide)
        have e1 : x 1 = (.int .i64 ((1 : Nat))) := hV 1 (by decide)
        have e2 : x 2 = (.bool true) := hV 2 (by decide)
        have q2 := hS.1; obtain ⟨q0, q1⟩ := hS.2.1.two
        go_simp
        exact hK.out _ _ _ rfl rfl rfl (Below.refl _ _)
      simp only [List.setIfInBounds_toArray, List.set_cons_zero, List.set_cons_succ]
      refine obs_step (Eq.trans (by simp only [List.getElem?_toArray, List.getElem?_cons_succ, List.getElem?_cons_zero]; exact rfl) rfl) rfl (fun w' hS hV K hK => ?_) ?_
      · have e0 : x 0 = (.slice (some ⟨gg, og, none⟩) 1 cg) := hV 0 (by decide)
        have e1 : x 1 = (.int .i64 ((1 : Nat))) := hV 1 (by decide)
        have e2 : x 2 = (.bool true) := hV 2 (by decide)
        have e3 : x 3 = (.bool true) := hV 3 (by decide)
        have q2 := hS.1; obtain ⟨q0, q1⟩ := hS.2.1.two
        go_simp
        exact hK.out _ _ _ rfl rfl rfl (Below.refl _ _)
      simp only [List.setIfInBounds_toArray, List.set_cons_zero, List.set_cons_succ]
      refine obs_step (Eq.trans (by simp only [List.getElem?_toArray, List.getElem?_cons_succ, List.getElem?_cons_zero]; exact rfl) rfl) rfl (fun w' hS hV K hK => ?_) ?_
      · have e0 : x 0 = (.slice (some ⟨gg, og, none⟩) 1 cg) := hV 0 (by decide)
        have e1 : x 1 = (.int .i64 ((1 : Nat))) := hV 1 (by decide)
        have e2 : x 2 = (.bool true) := hV 2 (by decide)
        have e3 : x 3 = (.bool true) := hV 3 (by decide)
        have q2 := hS.1; obtain ⟨q0, q1⟩ := hS.2.1.two
        go_simp
        exact hK.out _ _ _ rfl rfl rfl (Below.refl _ _)
      simp only [List.setIfInBounds_toArray, List.set_cons_zero, List.set_cons_succ]
      refine obs_step (Eq.trans (by simp only [List.getElem?_toArray, List.getElem?_cons_succ, List.getElem?_cons_zero]; exact rfl) rfl) rfl (fun w' hS hV K hK => ?_) ?_
      · have e0 : x 0 = (.slice (some ⟨gg, og, none⟩) 1 cg) := hV 0 (by decide)
        have e1 : x 1 = (.int .i64 ((1 : Nat))) := hV 1 (by decide)
        have e2 : x 2 = (.bool true) := hV 2 (by decide)
        have e3 : x 3 = (.bool true) := hV 3 (by decide)
        have e4 : x 4 = (.agg #[.int .i64 P, .slice A n c]) := hV 4 (by decide)
        have e5 : x 5 = (.slice X (pw n) cx) := hV 5 (by decide)
        have q2 := hS.1; obtain ⟨q0, q1⟩ := hS.2.1.two
        go_simp
        refine (HSUB.out _ hS.2.2).mono ?_
        rw [← HQ.out]
        rintro e v1 ⟨A2, c2, rfl, hM⟩
        exact hK.out _ _ _ rfl rfl ⟨_, _, rfl, hM.after hS.2.2⟩ hM.b
      simp only [List.setIfInBounds_toArray, List.set_cons_zero, List.set_cons_succ]
      refine obs_step (Eq.trans (by simp only [List.getElem?_toArray, List.getElem?_cons_succ, List.getElem?_cons_zero]; exact rfl) rfl) rfl (fun w' hS hV K hK => ?_) ?_
      · have e0 : x 0 = (.slice (some ⟨gg, og, none⟩) 1 cg) := hV 0 (by decide)
        have e1 : x 1 = (.int .i64 ((1 : Nat))) := hV 1 (by decide)
        have e2 : x 2 = (.bool true) := hV 2 (by decide)
        have e3 : x 3 = (.bool true) := hV 3 (by decide)
        have e4 : x 4 = (.agg #[.int .i64 P, .slice A n c]) := hV 4 (by decide)
        have e5 : x 5 = (.slice X (pw n) cx) := hV 5 (by decide)
        obtain ⟨A6, c6, e6, h6⟩ := hV 6 (by decide)
        have q2 := hS.1; obtain ⟨q0, q1⟩ := hS.2.1.two
        go_simp
        refine (lengthS_any _ _ _ _).mono ?_
        rintro e v1 ⟨rfl, rfl⟩
        exact hK.out _ _ _ rfl rfl rfl (Below.refl _ _)
      simp only [List.setIfInBounds_toArray, List.set_cons_zero, List.set_cons_succ]
      refine obs_step (Eq.trans (by simp only [List.getElem?_toArray, List.getElem?_cons_succ, List.getElem?_cons_zero]; exact rfl) rfl) rfl (fun w' hS hV K hK => ?_) ?_
      · have e0 : x 0 = (.slice (some ⟨gg, og, none⟩) 1 cg) := hV 0 (by decide)
        have e1 : x 1 = (.int .i64 ((1 : Nat))) := hV 1 (by decide)
        have e2 : x 2 = (.bool true) := hV 2 (by decide)
        have e3 : x 3 = (.bool true) := hV 3 (by decide)
        have q2 := hS.1; obtain ⟨q0, q1⟩ := hS.2.1.two
        go_simp
        exact hK.out _ _ _ rfl rfl rfl (Below.refl _ _)
      simp only [List.setIfInBounds_toArray, List.set_cons_zero, List.set_cons_succ]
      refine obs_step (Eq.trans (by simp only [List.getElem?_toArray, List.getElem?_cons_succ, List.getElem?_cons_zero]; exact rfl) rfl) rfl (fun w' hS hV K hK => ?_) ?_
      · have e0 : x 0 = (.slice (some ⟨gg, og, none⟩) 1 cg) := hV 0 (by decide)
        have e1 : x 1 = (.int .i64 ((1 : Nat))) := hV 1 (by decide)
        have e2 : x 2 = (.bool true) := hV 2 (by decide)
        have e3 : x 3 = (.bool true) := hV 3 (by decide)
        have e8 : x 8 = (.slice (some ⟨gg, og, none⟩) 1 cg) := hV 8 (by decide)
        have q2 := hS.1; obtain ⟨q0, q1⟩ := hS.2.1.two
        go_simp
        exact hK.out _ _ _ rfl rfl rfl (Below.refl _ _)
      simp only [List.setIfInBounds_toArray, List.set_cons_zero, List.set_cons_succ]
      refine obs_step (Eq.trans (by simp only [List.getElem?_toArray, List.getElem?_cons_succ, List.getElem?_cons_zero]; exact rfl) rfl) rfl (fun w' hS hV K hK => ?_) ?_
      · have e0 : x 0 = (.slice (some ⟨gg, og, none⟩) 1 cg) := hV 0 (by decide)
        have e1 : x 1 = (.int .i64 ((1 : Nat))) := hV 1 (by decide)
        have e2 : x 2 = (.bool true) := hV 2 (by decide)
        have e3 : x 3 = (.bool true) := hV 3 (by decide)
        have e8 : x 8 = (.slice (some ⟨gg, og, none⟩) 1 cg) := hV 8 (by decide)
        have e9 : x 9 = (.pointer (some ⟨gg, og, none⟩)) := hV 9 (by decide)
        have q2 := hS.1; obtain ⟨q0, q1⟩ := hS.2.1.two
        go_simp
        exact hK.out _ _ _ rfl rfl rfl (Below.refl _ _)
      simp only [List.setIfInBounds_toArray, List.set_cons_zero, List.set_cons_succ]
      refine obs_step (Eq.trans (by simp only [List.getElem?_toArray, List.getElem?_cons_succ, List.getElem?_cons_zero]; exact rfl) rfl) rfl (fun w' hS hV K hK => ?_) ?_
      · have e0 : x 0 = (.slice (some ⟨gg, og, none⟩) 1 cg) := hV 0 (by decide)
        have e1 : x 1 = (.int .i64 ((1 : Nat))) := hV 1 (by decide)
        have e2 : x 2 = (.bool true) := hV 2 (by decide)
        have e3 : x 3 = (.bool true) := hV 3 (by decide)
        have e4 : x 4 = (.agg #[.int .i64 P, .slice A n c]) := hV 4 (by decide)
        have e5 : x 5 = (.slice X (pw n) cx) := hV 5 (by decide)
        obtain ⟨A6, c6, e6, h6⟩ := hV 6 (by decide)
        have e7 : x 7 = (.int .i64 (q)) := hV 7 (by decide)
        have e8 : x 8 = (.slice (some ⟨gg, og, none⟩) 1 cg) := hV 8 (by decide)
        have e9 : x 9 = (.pointer (some ⟨gg, og, none⟩)) := hV 9 (by decide)
        have e10 : x 10 = (.int .i64 (gv)) := hV 10 (by decide)
        have q2 := hS.1; obtain ⟨q0, q1⟩ := hS.2.1.two
        go_simp
        exact hK.out _ _ _ rfl rfl rfl (Below.refl _ _)
      simp only [List.setIfInBounds_toArray, List.set_cons_zero, List.set_cons_succ]
      refine obs_step (Eq.trans (by simp only [List.getElem?_toArray, List.getElem?_cons_succ, List.getElem?_cons_zero]; exact rfl) rfl) rfl (fun w' hS hV K hK => ?_) ?_
      · have e0 : x 0 = (.slice (some ⟨gg, og, none⟩) 1 cg) := hV 0 (by decide)
        have e1 : x 1 = (.int .i64 ((1 : Nat))) := hV 1 (by decide)
        have e2 : x 2 = (.bool true) := hV 2 (by decide)
        have e3 : x 3 = (.bool true) := hV 3 (by decide)
        have e4 : x 4 = (.agg #[.int .i64 P, .slice A n c]) := hV 4 (by decide)
        have e5 : x 5 = (.slice X (pw n) cx) := hV 5 (by decide)
        obtain ⟨A6, c6, e6, h6⟩ := hV 6 (by decide)
        have e7 : x 7 = (.int .i64 (q)) := hV 7 (by decide)
        have e8 : x 8 = (.slice (some ⟨gg, og, none⟩) 1 cg) := hV 8 (by decide)
        have e9 : x 9 = (.pointer (some ⟨gg, og, none⟩)) := hV 9 (by decide)
        have e10 : x 10 = (.int .i64 (gv)) := hV 10 (by decide)
        have e11 : x 11 = (.bool true) := hV 11 (by decide)
        have q2 := hS.1; obtain ⟨q0, q1⟩ := hS.2.1.two
        go_simp
        exact hK.out _ _ _ rfl rfl rfl (Below.refl _ _)
      simp only [List.setIfInBounds_toArray, List.set_cons_zero, List.set_cons_succ]
      refine obs_step (Eq.trans (by simp only [List.getElem?_toArray, List.getElem?_cons_succ, List.getElem?_cons_zero]; exact rfl) rfl) rfl (fun w' hS hV K hK => ?_) ?_
      · have e0 : x 0 = (.slice (some ⟨gg, og, none⟩) 1 cg) := hV 0 (by decide)
        have e1 : x 1 = (.int .i64 ((1 : Nat))) := hV 1 (by decide)
        have e2 : x 2 = (.bool true) := hV 2 (by decide)
        have e3 : x 3 = (.bool true) := hV 3 (by decide)
        have e4 : x 4 = (.agg #[.int .i64 P, .slice A n c]) := hV 4 (by decide)
        have e5 : x 5 = (.slice X (pw n) cx) := hV 5 (by decide)
        obtain ⟨A6, c6, e6, h6⟩ := hV 6 (by decide)
        have e7 : x 7 = (.int .i64 (q)) := hV 7 (by decide)
        have e8 : x 8 = (.slice (some ⟨gg, og, none⟩) 1 cg) := hV 8 (by decide)
        have e9 : x 9 = (.pointer (some ⟨gg, og, none⟩)) := hV 9 (by decide)
        have e10 : x 10 = (.int .i64 (gv)) := hV 10 (by decide)
        have e11 : x 11 = (.bool true) := hV 11 (by decide)
        have e12 : x 12 = (.bool true) := hV 12 (by decide)
        have q2 := hS.1; obtain ⟨q0, q1⟩ := hS.2.1.two
        go_simp
        exact hK.out _ _ _ rfl rfl rfl (Below.refl _ _)
      simp only [List.setIfInBounds_toArray, List.set_cons_zero, List.set_cons_succ]
      refine fun w' hS hV => ?_
      have e0 : x 0 = (.slice (some ⟨gg, og, none⟩) 1 cg) := hV 0 (by decide)
      have e1 : x 1 = (.int .i64 ((1 : Nat))) := hV 1 (by decide)
      have e2 : x 2 = (.bool true) := hV 2 (by decide)
      have e3 : x 3 = (.bool true) := hV 3 (by decide)
      have e4 : x 4 = (.agg #[.int .i64 P, .slice A n c]) := hV 4 (by decide)
      have e5 : x 5 = (.slice X (pw n) cx) := hV 5 (by decide)
      obtain ⟨A6, c6, e6, h6⟩ := hV 6 (by decide)
      have e7 : x 7 = (.int .i64 (q)) := hV 7 (by decide)
      have e8 : x 8 = (.slice (some ⟨gg, og, none⟩) 1 cg) := hV 8 (by decide)
      have e9 : x 9 = (.pointer (some ⟨gg, og, none⟩)) := hV 9 (by decide)
      have e10 : x 10 = (.int .i64 (gv)) := hV 10 (by decide)
      have e11 : x 11 = (.bool true) := hV 11 (by decide)
      have e12 : x 12 = (.bool true) := hV 12 (by decide)
      have e13 : x 13 = (.bool true) := hV 13 (by decide)
      simp only [e0, e1, e2, e3, e4, e5, e6, e7, e8, e9, e10, e11, e12, e13]
      clear e0 e1 e2 e3 e4 e5 e6 e7 e8 e9 e10 e11 e12 e13
      refine wpAny_done (by kernel_rfl) ?_ _
      go_wp2
      go_ret
      exact ⟨ret_bool HZ.out.symm, hS.2.2⟩
  · have HZ : Hid (isBl P sq n xs = false) := Lib.hid (by rw [HGL.out]; simp [h1])
    have hm1 : (((m : Nat) : Int) == 1) = false := by simp; omega
    clear hgr hm
    go_wp2
    refine wp_obs 14 [[], [0], [0, 1], [0, 1, 2], [0, 1, 2, 3], [0, 1, 2, 3], [0, 1, 2, 3, 4, 5], [0, 1, 2, 3, 4, 5, 6], [0, 1, 2, 3], [0, 1, 2, 3, 8], [0, 1, 2, 3, 8, 9], [0, 1, 2, 3, 4, 5, 6, 7, 8, 9, 10], [0, 1, 2, 3, 4, 5, 6, 7, 8, 9, 10, 11], [0, 1, 2, 3, 4, 5, 6, 7, 8, 9, 10, 11, 12]] [VIs (.slice G m cg), VIs (.int .i64 (m)), VIs (.bool false), VIs (.bool false), VIs undef, VIs undef, VIs undef, VIs undef, VIs undef, VIs undef, VIs undef, VIs undef, VIs (.bool false), VIs (.bool false)] (fun w' => Blk w' w.heap.size 28 #[.int .i64 P, .slice A n c] ∧ Below w.heap.size w w') (by kernel_rfl) (by kernel_rfl) (fun _ _ h hb => ⟨h.1.below hb h.1.lt, h.2.trans (hb.mono h.2.size)⟩) (⟨k1.drew, hB1.drew⟩) (fun x => ?_)
    refine obs_step (Eq.trans (by simp only [List.getElem?_toArray, List.getElem?_cons_zero]; exact rfl) rfl) rfl (fun w' hS hV K hK => ?_) ?_
    · obtain ⟨q0, q1⟩ := hS.1.two
      go_simp
      exact hK.out _ _ _ rfl rfl rfl (Below.refl _ _)
    simp only [List.setIfInBounds_toArray, List.set_cons_zero, List.set_cons_succ]
    refine obs_step (Eq.trans (by simp only [List.getElem?_toArray, List.getElem?_cons_succ, List.getElem?_cons_zero]; exact rfl) rfl) rfl (fun w' hS hV K hK => ?_) ?_
    · have e0 : x 0 = (.slice G m cg) := hV 0 (by decide)
      obtain ⟨q0, q1⟩ := hS.1.two
      go_simp
      exact hK.out _ _ _ rfl rfl rfl (Below.refl _ _)
    simp only [List.setIfInBounds_toArray, List.set_cons_zero, List.set_cons_succ]
    refine obs_step (Eq.trans (by simp only [List.getElem?_toArray, List.getElem?_cons_succ, List.getElem?_cons_zero]; exact rfl) rfl) rfl (fun w' hS hV K hK => ?_) ?_
    · have e0 : x 0 = (.slice G m cg) := hV 0 (by decide)
      have e1 : x 1 = (.int .i64 (m)) := hV 1 (by decide)
      obtain ⟨q0, q1⟩ := hS.1.two
      go_simp
      exact hK.out _ _ _ rfl rfl rfl (Below.refl _ _)
    simp only [List.setIfInBounds_toArray, List.set_cons_zero, List.set_cons_succ]
    refine obs_step (Eq.trans (by simp only [List.getElem?_toArray, List.getElem?_cons_succ, List.getElem?_cons_zero]; exact rfl) rfl) rfl (fun w' hS hV K hK => ?_) ?_
    · have e0 : x 0 = (.slice G m cg) := hV 0 (by decide)
      have e1 : x 1 = (.int .i64 (m)) := hV 1 (by decide)
      have e2 : x 2 = (.bool false) := hV 2 (by decide)
      obtain ⟨q0, q1⟩ := hS.1.two
      go_simp
      exact hK.out _ _ _ rfl rfl rfl (Below.refl _ _)
    simp only [List.setIfInBounds_toArray, List.set_cons_zero, List.set_cons_succ]
    refine obs_step (Eq.trans (by simp only [List.getElem?_toArray, List.getElem?_cons_succ, List.getElem?_cons_zero]; exact rfl) rfl) rfl (fun w' hS hV K hK => ?_) ?_
    · have e0 : x 0 = (.slice G m cg) := hV 0 (by decide)
      have e1 : x 1 = (.int .i64 (m)) := hV 1 (by decide)
      have e2 : x 2 = (.bool false) := hV 2 (by decide)
      have e3 : x 3 = (.bool false) := hV 3 (by decide)
      obtain ⟨q0, q1⟩ := hS.1.two
      go_simp
      exact hK.out _ _ _ rfl rfl rfl (Below.refl _ _)
    simp only [List.setIfInBounds_toArray, List.set_cons_zero, List.set_cons_succ]
    refine obs_step (Eq.trans (by simp only [List.getElem?_toArray, List.getElem?_cons_succ, List.getElem?_cons_zero]; exact rfl) rfl) rfl (fun w' hS hV K hK => ?_) ?_
    · have e0 : x 0 = (.slice G m cg) := hV 0 (by decide)
      have e1 : x 1 = (.int .i64 (m)) := hV 1 (by decide)
      have e2 : x 2 = (.bool false) := hV 2 (by decide)
      have e3 : x 3 = (.bool false) := hV 3 (by decide)
      obtain ⟨q0, q1⟩ := hS.1.two
      go_simp
      exact hK.out _ _ _ rfl rfl rfl (Below.refl _ _)
    simp only [List.setIfInBounds_toArray, List.set_cons_zero, List.set_cons_succ]
    refine obs_step (Eq.trans (by simp only [List.getElem?_toArray, List.getElem?_cons_succ, List.getElem?_cons_zero]; exact rfl) rfl) rfl (fun w' hS hV K hK => ?_) ?_
    · have e0 : x 0 = (.slice G m cg) := hV 0 (by decide)
      have e1 : x 1 = (.int .i64 (m)) := hV 1 (by decide)
      have e2 : x 2 = (.bool false) := hV 2 (by decide)
      have e3 : x 3 = (.bool false) := hV 3 (by decide)
      have e4 : x 4 = undef := hV 4 (by decide)
      have e5 : x 5 = undef := hV 5 (by decide)
      obtain ⟨q0, q1⟩ := hS.1.two
      go_simp
      exact hK.out _ _ _ rfl rfl rfl (Below.refl _ _)
    simp only [List.setIfInBounds_toArray, List.set_cons_zero, List.set_cons_succ]
    refine obs_step (Eq.trans (by simp only [List.getElem?_toArray, List.getElem?_cons_succ, List.getElem?_cons_zero]; exact rfl) rfl) rfl (fun w' hS hV K hK => ?_) ?_
    · have e0 : x 0 = (.slice G m cg) := hV 0 (by decide)
      have e1 : x 1 = (.int .i64 (m)) := hV 1 (by decide)
      have e2 : x 2 = (.bool false) := hV 2 (by decide)
      have e3 : x 3 = (.bool false) := hV 3 (by decide)
      have e4 : x 4 = undef := hV 4 (by decide)
      have e5 : x 5 = undef := hV 5 (by decide)
      have e6 : x 6 = undef := hV 6 (by decide)
      obtain ⟨q0, q1⟩ := hS.1.two
      go_simp
      exact hK.out _ _ _ rfl rfl rfl (Below.refl _ _)
    simp only [List.setIfInBounds_toArray, List.set_cons_zero, List.set_cons_succ]
    refine obs_step (Eq.trans (by simp only [List.getElem?_toArray, List.getElem?_cons_succ, List.getElem?_cons_zero]; exact rfl) rfl) rfl (fun w' hS hV K hK => ?_) ?_
    · have e0 : x 0 = (.slice G m cg) := hV 0 (by decide)
      have e1 : x 1 = (.int .i64 (m)) := hV 1 (by decide)
      have e2 : x 2 = (.bool false) := hV 2 (by decide)
      have e3 : x 3 = (.bool false) := hV 3 (by decide)
      obtain ⟨q0, q1⟩ := hS.1.two
      go_simp
      exact hK.out _ _ _ rfl rfl rfl (Below.refl _ _)
    simp only [List.setIfInBounds_toArray, List.set_cons_zero, List.set_cons_succ]
    refine obs_step (Eq.trans (by simp only [List.getElem?_toArray, List.getElem?_cons_succ, List.getElem?_cons_zero]; exact rfl) rfl) rfl (fun w' hS hV K hK => ?_) ?_
    · have e0 : x 0 = (.slice G m cg) := hV 0 (by decide)
      have e1 : x 1 = (.int .i64 (m)) := hV 1 (by decide)
      have e2 : x 2 = (.bool false) := hV 2 (by decide)
      have e3 : x 3 = (.bool false) := hV 3 (by decide)
      have e8 : x 8 = undef := hV 8 (by decide)
      obtain ⟨q0, q1⟩ := hS.1.two
      go_simp
      exact hK.out _ _ _ rfl rfl rfl (Below.refl _ _)
    simp only [List.setIfInBounds_toArray, List.set_cons_zero, List.set_cons_succ]
    refine obs_step (Eq.trans (by simp only [List.getElem?_toArray, List.getElem?_cons_succ, List.getElem?_cons_zero]; exact rfl) rfl) rfl (fun w' hS hV K hK => ?_) ?_
    · have e0 : x 0 = (.slice G m cg) := hV 0 (by decide)
      have e1 : x 1 = (.int .i64 (m)) := hV 1 (by decide)
      have e2 : x 2 = (.bool false) := hV 2 (by decide)
      have e3 : x 3 = (.bool false) := hV 3 (by decide)
      have e8 : x 8 = undef := hV 8 (by decide)
      have e9 : x 9 = undef := hV 9 (by decide)
      obtain ⟨q0, q1⟩ := hS.1.two
      go_simp
      exact hK.out _ _ _ rfl rfl rfl (Below.refl _ _)
    simp only [List.setIfInBounds_toArray, List.set_cons_zero, List.set_cons_succ]
    refine obs_step (Eq.trans (by simp only [List.getElem?_toArray, List.getElem?_cons_succ, List.getElem?_cons_zero]; exact rfl) rfl) rfl (fun w' hS hV K hK => ?_) ?_
    · have e0 : x 0 = (.slice G m cg) := hV 0 (by decide)
      have e1 : x 1 = (.int .i64 (m)) := hV 1 (by decide)
      have e2 : x 2 = (.bool false) := hV 2 (by decide)
      have e3 : x 3 = (.bool false) := hV 3 (by decide)
      have e4 : x 4 = undef := hV 4 (by decide)
      have e5 : x 5 = undef := hV 5 (by decide)
      have e6 : x 6 = undef := hV 6 (by decide)
      have e7 : x 7 = undef := hV 7 (by decide)
      have e8 : x 8 = undef := hV 8 (by decide)
      have e9 : x 9 = undef := hV 9 (by decide)
      have e10 : x 10 = undef := hV 10 (by decide)
      obtain ⟨q0, q1⟩ := hS.1.two
      go_simp
      exact hK.out _ _ _ rfl rfl rfl (Below.refl _ _)
    simp only [List.setIfInBounds_toArray, List.set_cons_zero, List.set_cons_succ]
    refine obs_step (Eq.trans (by simp only [List.getElem?_toArray, List.getElem?_cons_succ, List.getElem?_cons_zero]; exact rfl) rfl) rfl (fun w' hS hV K hK => ?_) ?_
    · have e0 : x 0 = (.slice G m cg) := hV 0 (by decide)
      have e1 : x 1 = (.int .i64 (m)) := hV 1 (by decide)
      have e2 : x 2 = (.bool false) := hV 2 (by decide)
      have e3 : x 3 = (.bool false) := hV 3 (by decide)
      have e4 : x 4 = undef := hV 4 (by decide)
      have e5 : x 5 = undef := hV 5 (by decide)
      have e6 : x 6 = undef := hV 6 (by decide)
      have e7 : x 7 = undef := hV 7 (by decide)
      have e8 : x 8 = undef := hV 8 (by decide)
      have e9 : x 9 = undef := hV 9 (by decide)
      have e10 : x 10 = undef := hV 10 (by decide)
      have e11 : x 11 = undef := hV 11 (by decide)
      obtain ⟨q0, q1⟩ := hS.1.two
      go_simp
      exact hK.out _ _ _ rfl rfl rfl (Below.refl _ _)
    simp only [List.setIfInBounds_toArray, List.set_cons_zero, List.set_cons_succ]
    refine obs_step (Eq.trans (by simp only [List.getElem?_toArray, List.getElem?_cons_succ, List.getElem?_cons_zero]; exact rfl) rfl) rfl (fun w' hS hV K hK => ?_) ?_
    · have e0 : x 0 = (.slice G m cg) := hV 0 (by decide)
      have e1 : x 1 = (.int .i64 (m)) := hV 1 (by decide)
      have e2 : x 2 = (.bool false) := hV 2 (by decide)
      have e3 : x 3 = (.bool false) := hV 3 (by decide)
      have e4 : x 4 = undef := hV 4 (by decide)
      have e5 : x 5 = undef := hV 5 (by decide)
      have e6 : x 6 = undef := hV 6 (by decide)
      have e7 : x 7 = undef := hV 7 (by decide)
      have e8 : x 8 = undef := hV 8 (by decide)
      have e9 : x 9 = undef := hV 9 (by decide)
      have e10 : x 10 = undef := hV 10 (by decide)
      have e11 : x 11 = undef := hV 11 (by decide)
      have e12 : x 12 = (.bool false) := hV 12 (by decide)
      obtain ⟨q0, q1⟩ := hS.1.two
      go_simp
      exact hK.out _ _ _ rfl rfl rfl (Below.refl _ _)
    simp only [List.setIfInBounds_toArray, List.set_cons_zero, List.set_cons_succ]
    refine fun w' hS hV => ?_
    have e0 : x 0 = (.slice G m cg) := hV 0 (by decide)
    have e1 : x 1 = (.int .i64 (m)) := hV 1 (by decide)
    have e2 : x 2 = (.bool false) := hV 2 (by decide)
    have e3 : x 3 = (.bool false) := hV 3 (by decide)
    have e4 : x 4 = undef := hV 4 (by decide)
    have e5 : x 5 = undef := hV 5 (by decide)
    have e6 : x 6 = undef := hV 6 (by decide)
    have e7 : x 7 = undef := hV 7 (by decide)
    have e8 : x 8 = undef := hV 8 (by decide)
    have e9 : x 9 = undef := hV 9 (by decide)
    have e10 : x 10 = undef := hV 10 (by decide)
    have e11 : x 11 = undef := hV 11 (by decide)
    have e12 : x 12 = (.bool false) := hV 12 (by decide)
    have e13 : x 13 = (.bool false) := hV 13 (by decide)
    simp only [e0, e1, e2, e3, e4, e5, e6, e7, e8, e9, e10, e11, e12, e13]
    clear e0 e1 e2 e3 e4 e5 e6 e7 e8 e9 e10 e11 e12 e13
    refine wpAny_done (by kernel_rfl) ?_ _
    go_wp2
    go_ret
    exact ⟨ret_bool HZ.out.symm, hS.2⟩

set_option maxHeartbeats 3200000 in
set_option maxRecDepth 8000 in
theorem l06Is_any (P : Int) (A : Option Addr) (n c : Nat) (sq : List Int) (X : Option Addr) (cx : Nat) (xs : List Int) (w : World) (HP : isP P = true) (hn : n ≤ 6) (h0 : 0 < n) (ha : Rd w A n (ints sq)) (hs : NumsL P sq) (hx : Rd w X (pw n) (ints xs)) (hxs : NumsL P xs) :
    Calls Tryz.prog 87 #[.agg #[.int .i64 P, .slice A n c], .slice X (pw n) cx] w fun e w' => e = .returned (.bool (isBl P sq n xs)) ∧ Below w.heap.size w w' := by
  obtain ⟨hp3, hp2⟩ := isP_ge HP
  have hp : 2 ≤ P := by omega
  have hpn := pw_pos n
  have hpw : pw n ≤ 64 := pw_le hn
  have hB0 : Below w.heap.size w (w.alloc (.cells #[.int .i64 P, .slice A n c] 28)) := (Below.refl _ _).alloc (Nat.le_refl _) _
  have k0 : Blk (w.alloc (.cells #[.int .i64 P, .slice A n c] 28)) w.heap.size 28 #[.int .i64 P, .slice A n c] := Blk.new _ _ _
  have hgl := gradesL_len xs
  have hsl := subL_len HP sq n xs
  have hsub := fun w' (hb : Below w.heap.size w w') => l06Subspace_any P A n c sq X cx xs w' HP hn h0 (ha.below hb) hs (hx.below hb) hxs
  have HSUB := Lib.hid hsub
  clear hsub
  obtain ⟨q0, q1⟩ := k0.two
  go_enter Tryz.func87, Tryz.ntmps87
  go_wp2_with fail
  refine (l04Grades_any P A n c X cx xs _ hn (hx.below hB0)).mono ?_
  rintro e w1 ⟨G, cg, rfl, hG⟩
  have k1 := k0.below hG.b k0.lt
  have hB1 := hB0.trans (hG.b.mono hB0.size)
  have HGL : Hid ((isBl P sq n xs) = (decide ((gradesL xs).length = 1) && decide ((((subL P sq n xs).length : Nat) : Int) = (gradesL xs).getD 0 0))) := Lib.hid rfl
  have hgr := hG.rd
  obtain ⟨L, hL⟩ : ∃ L, L = gradesL xs := ⟨_, rfl⟩
  rw [← hL] at hgr hgl HGL ⊢
  obtain ⟨q, hq⟩ : ∃ q, q = (subL P sq n xs).length := ⟨_, rfl⟩
  have HQ := Lib.hid hq
  rw [← hq] at HGL hsl
  obtain ⟨m, hm⟩ : ∃ m, m = L.length := ⟨_, rfl⟩
  rw [← hm] at hgr hgl HGL ⊢
  clear k0 hB0 q0 q1 hG hL hq
  have HM := Lib.hid hm
  by_cases h1 : m = 1
  · obtain ⟨gg, og, rfl, hg0, hcg⟩ := hgr.int (show 0 < m by omega)
    have HG0 : Hid (L.getD 0 0 = L[0]) := Lib.hid (getD_of_lt 0 hg0)
    rw [Nat.add_zero] at hcg
    obtain ⟨gv, hgv⟩ : ∃ v, v = L[0] := ⟨_, rfl⟩
    rw [← hgv] at hcg HG0
    clear hgv hg0 hgr hm
    have HZ0 : Hid (isBl P sq n xs = (((q : Nat) : Int) == gv)) := Lib.hid (by rw [HGL.out, HG0.out, h1, Bool.eq_iff_iff]; simp)
    cases hz : (((q : Nat) : Int) == gv)
    all_goals
      have HZ := Lib.hid (HZ0.out.trans hz)
      subst h1
    · go_wp2
      refine wp_obs 14 [[], [0], [0, 1], [0, 1, 2], [0, 1, 2, 3], [0, 1, 2, 3], [0, 1, 2, 3, 4, 5], [0, 1, 2, 3, 4, 5, 6], [0, 1, 2, 3], [0, 1, 2, 3, 8], [0, 1, 2, 3, 8, 9], [0, 1, 2, 3, 4, 5, 6, 7, 8, 9, 10], [0, 1, 2, 3, 4, 5, 6, 7, 8, 9, 10, 11], [0, 1, 2, 3, 4, 5, 6, 7, 8, 9, 10, 11, 12]] [VIs (.slice (some ⟨gg, og, none⟩) 1 cg), VIs (.int .i64 ((1 : Nat))), VIs (.bool true), VIs (.bool true), VIs (.agg #[.int .i64 P, .slice A n c]), VIs (.slice X (pw n) cx), VMat w q (subL P sq n xs), VIs (.int .i64 (q)), VIs (.slice (some ⟨gg, og, none⟩) 1 cg), VIs (.pointer (some ⟨gg, og, none⟩)), VIs (.int .i64 (gv)), VIs (.bool false), VIs (.bool false), VIs (.bool false)] (fun w' => w'.cell? ⟨gg, og, none⟩ = some (.int .i64 gv) ∧ Blk w' w.heap.size 28 #[.int .i64 P, .slice A n c] ∧ Below w.heap.size w w') (by kernel_rfl) (by kernel_rfl) (fun _ _ h hb => ⟨(hb.cell (World.block_lt_of_cell? _ _ h.1)).trans h.1, h.2.1.below hb h.2.1.lt, h.2.2.trans (hb.mono h.2.2.size)⟩) (⟨hcg, k1.drew, hB1.drew⟩) (fun x => ?_)
      refine obs_step (Eq.trans (by simp only [List.getElem?_toArray, List.getElem?_cons_zero]; exact rfl) rfl) rfl (fun w' hS hV K hK => ?_) ?_
      · have q2 := hS.1; obtain ⟨q0, q1⟩ := hS.2.1.two
        go_simp
        exact hK.out _ _ _ rfl rfl rfl (Below.refl _ _)
      simp only [List.setIfInBounds_toArray, List.set_cons_zero, List.set_cons_succ]
      refine obs_step (Eq.trans (by simp only [List.getElem?_toArray, List.getElem?_cons_succ, List.getElem?_cons_zero]; exact rfl) rfl) rfl (fun w' hS hV K hK => ?_) ?_
      · have e0 : x 0 = (.slice (some ⟨gg, og, none⟩) 1 cg) := hV 0 (by decide)
        have q2 := hS.1; obtain ⟨q0, q1⟩ := hS.2.1.two
        go_simp
        exact hK.out _ _ _ rfl rfl rfl (Below.refl _ _)
      simp only [List.setIfInBounds_toArray, List.set_cons_zero, List.set_cons_succ]
      refine obs_step (Eq.trans (by simp only [List.getElem?_toArray, List.getElem?_cons_succ, List.getElem?_cons_zero]; exact rfl) rfl) rfl (fun w' hS hV K hK => ?_) ?_
      · have e0 : x 0 = (.slice (some ⟨gg, og, none⟩) 1 cg) := hV 0 (by decide)
        have e1 : x 1 = (.int .i64 ((1 : Nat))) := hV 1 (by decide)
        have q2 := hS.1; obtain ⟨q0, q1⟩ := hS.2.1.two
        go_simp
        exact hK.out _ _ _ rfl rfl rfl (Below.refl _ _)
      simp only [List.setIfInBounds_toArray, List.set_cons_zero, List.set_cons_succ]
      refine obs_step (Eq.trans (by simp only [List.getElem?_toArray, List.getElem?_cons_succ, List.getElem?_cons_zero]; exact rfl) rfl) rfl (fun w' hS hV K hK => ?_) ?_
      · have e0 : x 0 = (.slice (some ⟨gg, og, none⟩) 1 cg) := hV 0 (by decide)
        have e1 : x 1 = (.int .i64 ((1 : Nat))) := hV 1 (by decide)
        have e2 : x 2 = (.bool true) := hV 2 (by decide)
        have q2 := hS.1; obtain ⟨q0, q1⟩ := hS.2.1.two
        go_simp
        exact hK.out _ _ _ rfl rfl rfl (Below.refl _ _)
      simp only [List.setIfInBounds_toArray, List.set_cons_zero, List.set_cons_succ]
      refine obs_step (Eq.trans (by simp only [List.getElem?_toArray, List.getElem?_cons_succ, List.getElem?_cons_zero]; exact rfl) rfl) rfl (fun w' hS hV K hK => ?_) ?_
      · have e0 : x 0 = (.slice (some ⟨gg, og, none⟩) 1 cg) := hV 0 (by decide)
        have e1 : x 1 = (.int .i64 ((1 : Nat))) := hV 1 (by decide)
        have e2 : x 2 = (.bool true) := hV 2 (by decide)
        have e3 : x 3 = (.bool true) := hV 3 (by decide)
        have q2 := hS.1; obtain ⟨q0, q1⟩ := hS.2.1.two
        go_simp
        exact hK.out _ _ _ rfl rfl rfl (Below.refl _ _)
      simp only [List.setIfInBounds_toArray, List.set_cons_zero, List.set_cons_succ]
      refine obs_step (Eq.trans (by simp only [List.getElem?_toArray, List.getElem?_cons_succ, List.getElem?_cons_zero]; exact rfl) rfl) rfl (fun w' hS hV K hK => ?_) ?_
      · have e0 : x 0 = (.slice (some ⟨gg, og, none⟩) 1 cg) := hV 0 (by decide)
        have e1 : x 1 = (.int .i64 ((1 : Nat))) := hV 1 (by decide)
        have e2 : x 2 = (.bool true) := hV 2 (by decide)
        have e3 : x 3 = (.bool true) := hV 3 (by decide)
        have q2 := hS.1; obtain ⟨q0, q1⟩ := hS.2.1.two
        go_simp
        exact hK.out _ _ _ rfl rfl rfl (Below.refl _ _)
      simp only [List.setIfInBounds_toArray, List.set_cons_zero, List.set_cons_succ]
      refine obs_step (Eq.trans (by simp only [List.getElem?_toArray, List.getElem?_cons_succ, List.getElem?_cons_zero]; exact rfl) rfl) rfl (fun w' hS hV K hK => ?_) ?_
      · have e0 : x 0 = (.slice (some ⟨gg, og, none⟩) 1 cg) := hV 0 (by decide)
        have e1 : x 1 = (.int .i64 ((1 : Nat))) := hV 1 (by decide)
        have e2 : x 2 = (.bool true) := hV 2 (by decide)
        have e3 : x 3 = (.bool true) := hV 3 (by decide)
        have e4 : x 4 = (.agg #[.int .i64 P, .slice A n c]) := hV 4 (by decide)
        have e5 : x 5 = (.slice X (pw n) cx) := hV 5 (by decide)
        have q2 := hS.1; obtain ⟨q0, q1⟩ := hS.2.1.two
        go_simp
        refine (HSUB.out _ hS.2.2).mono ?_
        rw [← HQ.out]
        rintro e v1 ⟨A2, c2, rfl, hM⟩
        exact hK.out _ _ _ rfl rfl ⟨_, _, rfl, hM.after hS.2.2⟩ hM.b
      simp only [List.setIfInBounds_toArray, List.set_cons_zero, List.set_cons_succ]
      refine obs_step (Eq.trans (by simp only [List.getElem?_toArray, List.getElem?_cons_succ, List.getElem?_cons_zero]; exact rfl) rfl) rfl (fun w' hS hV K hK => ?_) ?_
      · have e0 : x 0 = (.slice (some ⟨gg, og, none⟩) 1 cg) := hV 0 (by decide)
        have e1 : x 1 = (.int .i64 ((1 : Nat))) := hV 1 (by decide)
        have e2 : x 2 = (.bool true) := hV 2 (by decide)
        have e3 : x 3 = (.bool true) := hV 3 (by decide)
        have e4 : x 4 = (.agg #[.int .i64 P, .slice A n c]) := hV 4 (by decide)
        have e5 : x 5 = (.slice X (pw n) cx) := hV 5 (by decide)
        obtain ⟨A6, c6, e6, h6⟩ := hV 6 (by decide)
        have q2 := hS.1; obtain ⟨q0, q1⟩ := hS.2.1.two
        go_simp
        exact hK.out _ _ _ rfl rfl rfl (Below.refl _ _)
      simp only [List.setIfInBounds_toArray, List.set_cons_zero, List.set_cons_succ]
      refine obs_step (Eq.trans (by simp only [List.getElem?_toArray, List.getElem?_cons_succ, List.getElem?_cons_zero]; exact rfl) rfl) rfl (fun w' hS hV K hK => ?_) ?_
      · have e0 : x 0 = (.slice (some ⟨gg, og, none⟩) 1 cg) := hV 0 (by decide)
        have e1 : x 1 = (.int .i64 ((1 : Nat))) := hV 1 (by decide)
        have e2 : x 2 = (.bool true) := hV 2 (by decide)
        have e3 : x 3 = (.bool true) := hV 3 (by decide)
        have q2 := hS.1; obtain ⟨q0, q1⟩ := hS.2.1.two
        go_simp
        exact hK.out _ _ _ rfl rfl rfl (Below.refl _ _)
      simp only [List.setIfInBounds_toArray, List.set_cons_zero, List.set_cons_succ]
      refine obs_step (Eq.trans (by simp only [List.getElem?_toArray, List.getElem?_cons_succ, List.getElem?_cons_zero]; exact rfl) rfl) rfl (fun w' hS hV K hK => ?_) ?_
      · have e0 : x 0 = (.slice (some ⟨gg, og, none⟩) 1 cg) := hV 0 (by decide)
        have e1 : x 1 = (.int .i64 ((1 : Nat))) := hV 1 (by decide)
        have e2 : x 2 = (.bool true) := hV 2 (by decide)
        have e3 : x 3 = (.bool true) := hV 3 (by decide)
        have e8 : x 8 = (.slice (some ⟨gg, og, none⟩) 1 cg) := hV 8 (by decide)
        have q2 := hS.1; obtain ⟨q0, q1⟩ := hS.2.1.two
        go_simp
        exact hK.out _ _ _ rfl rfl rfl (Below.refl _ _)
      simp only [List.setIfInBounds_toArray, List.set_cons_zero, List.set_cons_succ]
      refine obs_step (Eq.trans (by simp only [List.getElem?_toArray, List.getElem?_cons_succ, List.getElem?_cons_zero]; exact rfl) rfl) rfl (fun w' hS hV K hK => ?_) ?_
      · have e0 : x 0 = (.slice (some ⟨gg, og, none⟩) 1 cg) := hV 0 (by decide)
        have e1 : x 1 = (.int .i64 ((1 : Nat))) := hV 1 (by decide)
        have e2 : x 2 = (.bool true) := hV 2 (by decide)
        have e3 : x 3 = (.bool true) := hV 3 (by decide)
        have e8 : x 8 = (.slice (some ⟨gg, og, none⟩) 1 cg) := hV 8 (by decide)
        have e9 : x 9 = (.pointer (some ⟨gg, og, none⟩)) := hV 9 (by decide)
        have q2 := hS.1; obtain ⟨q0, q1⟩ := hS.2.1.two
        go_simp
        exact hK.out _ _ _ rfl rfl rfl (Below.refl _ _)
      simp only [List.setIfInBounds_toArray, List.set_cons_zero, List.set_cons_succ]
      refine obs_step (Eq.trans (by simp only [List.getElem?_toArray, List.getElem?_cons_succ, List.getElem?_cons_zero]; exact rfl) rfl) rfl (fun w' hS hV K hK => ?_) ?_
      · have e0 : x 0 = (.slice (some ⟨gg, og, none⟩) 1 cg) := hV 0 (by decide)
        have e1 : x 1 = (.int .i64 ((1 : Nat))) := hV 1 (by decide)
        have e2 : x 2 = (.bool true) := hV 2 (by decide)
        have e3 : x 3 = (.bool true) := hV 3 (by decide)
        have e4 : x 4 = (.agg #[.int .i64 P, .slice A n c]) := hV 4 (by decide)
        have e5 : x 5 = (.slice X (pw n) cx) := hV 5 (by decide)
        obtain ⟨A6, c6, e6, h6⟩ := hV 6 (by decide)
        have e7 : x 7 = (.int .i64 (q)) := hV 7 (by decide)
        have e8 : x 8 = (.slice (some ⟨gg, og, none⟩) 1 cg) := hV 8 (by decide)
        have e9 : x 9 = (.pointer (some ⟨gg, og, none⟩)) := hV 9 (by decide)
        have e10 : x 10 = (.int .i64 (gv)) := hV 10 (by decide)
        have q2 := hS.1; obtain ⟨q0, q1⟩ := hS.2.1.two
        go_simp
        exact hK.out _ _ _ rfl rfl rfl (Below.refl _ _)
      simp only [List.setIfInBounds_toArray, List.set_cons_zero, List.set_cons_succ]
      refine obs_step (Eq.trans (by simp only [List.getElem?_toArray, List.getElem?_cons_succ, List.getElem?_cons_zero]; exact rfl) rfl) rfl (fun w' hS hV K hK => ?_) ?_
      · have e0 : x 0 = (.slice (some ⟨gg, og, none⟩) 1 cg) := hV 0 (by decide)
        have e1 : x 1 = (.int .i64 ((1 : Nat))) := hV 1 (by decide)
        have e2 : x 2 = (.bool true) := hV 2 (by decide)
        have e3 : x 3 = (.bool true) := hV 3 (by decide)
        have e4 : x 4 = (.agg #[.int .i64 P, .slice A n c]) := hV 4 (by decide)
        have e5 : x 5 = (.slice X (pw n) cx) := hV 5 (by decide)
        obtain ⟨A6, c6, e6, h6⟩ := hV 6 (by decide)
        have e7 : x 7 = (.int .i64 (q)) := hV 7 (by decide)
        have e8 : x 8 = (.slice (some ⟨gg, og, none⟩) 1 cg) := hV 8 (by decide)
        have e9 : x 9 = (.pointer (some ⟨gg, og, none⟩)) := hV 9 (by decide)
        have e10 : x 10 = (.int .i64 (gv)) := hV 10 (by decide)
        have e11 : x 11 = (.bool false) := hV 11 (by decide)
        have q2 := hS.1; obtain ⟨q0, q1⟩ := hS.2.1.two
        go_simp
        exact hK.out _ _ _ rfl rfl rfl (Below.refl _ _)
      simp only [List.setIfInBounds_toArray, List.set_cons_zero, List.set_cons_succ]
      refine obs_step (Eq.trans (by simp only [List.getElem?_toArray, List.getElem?_cons_succ, List.getElem?_cons_zero]; exact rfl) rfl) rfl (fun w' hS hV K hK => ?_) ?_
      · have e0 : x 0 = (.slice (some ⟨gg, og, none⟩) 1 cg) := hV 0 (by decide)
        have e1 : x 1 = (.int .i64 ((1 : Nat))) := hV 1 (by decide)
        have e2 : x 2 = (.bool true) := hV 2 (by decide)
        have e3 : x 3 = (.bool true) := hV 3 (by decide)
        have e4 : x 4 = (.agg #[.int .i64 P, .slice A n c]) := hV 4 (by decide)
        have e5 : x 5 = (.slice X (pw n) cx) := hV 5 (by decide)
        obtain ⟨A6, c6, e6, h6⟩ := hV 6 (by decide)
        have e7 : x 7 = (.int .i64 (q)) := hV 7 (by decide)
        have e8 : x 8 = (.slice (some ⟨gg, og, none⟩) 1 cg) := hV 8 (by decide)
        have e9 : x 9 = (.pointer (some ⟨gg, og, none⟩)) := hV 9 (by decide)
        have e10 : x 10 = (.int .i64 (gv)) := hV 10 (by decide)
        have e11 : x 11 = (.bool false) := hV 11 (by decide)
        have e12 : x 12 = (.bool false) := hV 12 (by decide)
        have q2 := hS.1; obtain ⟨q0, q1⟩ := hS.2.1.two
        go_simp
        exact hK.out _ _ _ rfl rfl rfl (Below.refl _ _)
      simp only [List.setIfInBounds_toArray, List.set_cons_zero, List.set_cons_succ]
      refine fun w' hS hV => ?_
      have e0 : x 0 = (.slice (some ⟨gg, og, none⟩) 1 cg) := hV 0 (by decide)
      have e1 : x 1 = (.int .i64 ((1 : Nat))) := hV 1 (by decide)
      have e2 : x 2 = (.bool true) := hV 2 (by decide)
      have e3 : x 3 = (.bool true) := hV 3 (by decide)
      have e4 : x 4 = (.agg #[.int .i64 P, .slice A n c]) := hV 4 (by decide)
      have e5 : x 5 = (.slice X (pw n) cx) := hV 5 (by decide)
      obtain ⟨A6, c6, e6, h6⟩ := hV 6 (by decide)
      have e7 : x 7 = (.int .i64 (q)) := hV 7 (by decide)
      have e8 : x 8 = (.slice (some ⟨gg, og, none⟩) 1 cg) := hV 8 (by decide)
      have e9 : x 9 = (.pointer (some ⟨gg, og, none⟩)) := hV 9 (by decide)
      have e10 : x 10 = (.int .i64 (gv)) := hV 10 (by decide)
      have e11 : x 11 = (.bool false) := hV 11 (by decide)
      have e12 : x 12 = (.bool false) := hV 12 (by decide)
      have e13 : x 13 = (.bool false) := hV 13 (by decide)
      simp only [e0, e1, e2, e3, e4, e5, e6, e7, e8, e9, e10, e11, e12, e13]
      clear e0 e1 e2 e3 e4 e5 e6 e7 e8 e9 e10 e11 e12 e13
      refine wpAny_done (by kernel_rfl) ?_ _
      go_wp2
      go_ret
      exact ⟨ret_bool HZ.out.symm, hS.2.2⟩
    · go_wp2
      refine wp_obs 14 [[], [0], [0, 1], [0, 1, 2], [0, 1, 2, 3], [0, 1, 2, 3], [0, 1, 2, 3, 4, 5], [0, 1, 2, 3, 4, 5, 6], [0, 1, 2, 3], [0, 1, 2, 3, 8], [0, 1, 2, 3, 8, 9], [0, 1, 2, 3, 4, 5, 6, 7, 8, 9, 10], [0, 1, 2, 3, 4, 5, 6, 7, 8, 9, 10, 11], [0, 1, 2, 3, 4, 5, 6, 7, 8, 9, 10, 11, 12]] [VIs (.slice (some ⟨gg, og, none⟩) 1 cg), VIs (.int .i64 ((1 : Nat))), VIs (.bool true), VIs (.bool true), VIs (.agg #[.int .i64 P, .slice A n c]), VIs (.slice X (pw n) cx), VMat w q (subL P sq n xs), VIs (.int .i64 (q)), VIs (.slice (some ⟨gg, og, none⟩) 1 cg), VIs (.pointer (some ⟨gg, og, none⟩)), VIs (.int .i64 (gv)), VIs (.bool true), VIs (.bool true), VIs (.bool true)] (fun w' => w'.cell? ⟨gg, og, none⟩ = some (.int .i64 gv) ∧ Blk w' w.heap.size 28 #[.int .i64 P, .slice A n c] ∧ Below w.heap.size w w') (by kernel_rfl) (by kernel_rfl) (fun _ _ h hb => ⟨(hb.cell (World.block_lt_of_cell? _ _ h.1)).trans h.1, h.2.1.below hb h.2.1.lt, h.2.2.trans (hb.mono h.2.2.size)⟩) (⟨hcg, k1.drew, hB1.drew⟩) (fun x => ?_)
      refine obs_step (Eq.trans (by simp only [List.getElem?_toArray, List.getElem?_cons_zero]; exact rfl) rfl) rfl (fun w' hS hV K hK => ?_) ?_
      · have q2 := hS.1; obtain ⟨q0, q1⟩ := hS.2.1.two
        go_simp
        exact hK.out _ _ _ rfl rfl rfl (Below.refl _ _)
      simp only [List.setIfInBounds_toArray, List.set_cons_zero, List.set_cons_succ]
      refine obs_step (Eq.trans (by simp only [List.getElem?_toArray, List.getElem?_cons_succ, List.getElem?_cons_zero]; exact rfl) rfl) rfl (fun w' hS hV K hK => ?_) ?_
      · have e0 : x 0 = (.slice (some ⟨gg, og, none⟩) 1 cg) := hV 0 (by decide)
        have q2 := hS.1; obtain ⟨q0, q1⟩ := hS.2.1.two
        go_simp
        exact hK.out _ _ _ rfl rfl rfl (Below.refl _ _)
      simp only [List.setIfInBounds_toArray, List.set_cons_zero, List.set_cons_succ]
      refine obs_step (Eq.trans (by simp only [List.getElem?_toArray, List.getElem?_cons_succ, List.getElem?_cons_zero]; exact rfl) rfl) rfl (fun w' hS hV K hK => ?_) ?_
      · have e0 : x 0 = (.slice (some ⟨gg, og, none⟩) 1 cg) := hV 0 (by decide)
        have e1 : x 1 = (.int .i64 ((1 : Nat))) := hV 1 (by decide)
        have q2 := hS.1; obtain ⟨q0, q1⟩ := hS.2.1.two
        go_simp
        exact hK.out _ _ _ rfl rfl rfl (Below.refl _ _)
      simp only [List.setIfInBounds_toArray, List.set_cons_zero, List.set_cons_succ]
      refine obs_step (Eq.trans (by simp only [List.getElem?_toArray, List.getElem?_cons_succ, List.getElem?_cons_zero]; exact rfl) rfl) rfl (fun w' hS hV K hK => ?_) ?_
      · have e0 : x 0 = (.slice (some ⟨gg, og, none⟩) 1 cg) := hV 0 (by decide)
        have e1 : x 1 = (.int .i64 ((1 : Nat))) := hV 1 (by decide)
        have e2 : x 2 = (.bool true) := hV 2 (by decide)
        have q2 := hS.1; obtain ⟨q0, q1⟩ := hS.2.1.two
        go_simp
        exact hK.out _ _ _ rfl rfl rfl (Below.refl _ _)
      simp only [List.setIfInBounds_toArray, List.set_cons_zero, List.set_cons_succ]
      refine obs_step (Eq.trans (by simp only [List.getElem?_toArray, List.getElem?_cons_succ, List.getElem?_cons_zero]; exact rfl) rfl) rfl (fun w' hS hV K hK => ?_) ?_
      · have e0 : x 0 = (.slice (some ⟨gg, og, none⟩) 1 cg) := hV 0 (by decide)
        have e1 : x 1 = (.int .i64 ((1 : Nat))) := hV 1 (by decide)
        have e2 : x 2 = (.bool true) := hV 2 (by decide)
        have e3 : x 3 = (.bool true) := hV 3 (by decide)
        have q2 := hS.1; obtain ⟨q0, q1⟩ := hS.2.1.two
        go_simp
        exact hK.out _ _ _ rfl rfl rfl (Below.refl _ _)
      simp only [List.setIfInBounds_toArray, List.set_cons_zero, List.set_cons_succ]
      refine obs_step (Eq.trans (by simp only [List.getElem?_toArray, List.getElem?_cons_succ, List.getElem?_cons_zero]; exact rfl) rfl) rfl (fun w' hS hV K hK => ?_) ?_
      · have e0 : x 0 = (.slice (some ⟨gg, og, none⟩) 1 cg) := hV 0 (by decide)
        have e1 : x 1 = (.int .i64 ((1 : Nat))) := hV 1 (by decide)
        have e2 : x 2 = (.bool true) := hV 2 (by decide)
        have e3 : x 3 = (.bool true) := hV 3 (by decide)
        have q2 := hS.1; obtain ⟨q0, q1⟩ := hS.2.1.two
        go_simp
        exact hK.out _ _ _ rfl rfl rfl (Below.refl _ _)
      simp only [List.setIfInBounds_toArray, List.set_cons_zero, List.set_cons_succ]
      refine obs_step (Eq.trans (by simp only [List.getElem?_toArray, List.getElem?_cons_succ, List.getElem?_cons_zero]; exact rfl) rfl) rfl (fun w' hS hV K hK => ?_) ?_
      · have e0 : x 0 = (.slice (some ⟨gg, og, none⟩) 1 cg) := hV 0 (by decide)
        have e1 : x 1 = (.int .i64 ((1 : Nat))) := hV 1 (by decide)
        have e2 : x 2 = (.bool true) := hV 2 (by decide)
        have e3 : x 3 = (.bool true) := hV 3 (by decide)
        have e4 : x 4 = (.agg #[.int .i64 P, .slice A n c]) := hV 4 (by decide)
        have e5 : x 5 = (.slice X (pw n) cx) := hV 5 (by decide)
        have q2 := hS.1; obtain ⟨q0, q1⟩ := hS.2.1.two
        go_simp
        refine (HSUB.out _ hS.2.2).mono ?_
        rw [← HQ.out]
        rintro e v1 ⟨A2, c2, rfl, hM⟩
        exact hK.out _ _ _ rfl rfl ⟨_, _, rfl, hM.after hS.2.2⟩ hM.b
      simp only [List.setIfInBounds_toArray, List.set_cons_zero, List.set_cons_succ]
      refine obs_step (Eq.trans (by simp only [List.getElem?_toArray, List.getElem?_cons_succ, List.getElem?_cons_zero]; exact rfl) rfl) rfl (fun w' hS hV K hK => ?_) ?_
      · have e0 : x 0 = (.slice (some ⟨gg, og, none⟩) 1 cg) := hV 0 (by decide)
        have e1 : x 1 = (.int .i64 ((1 : Nat))) := hV 1 (by decide)
        have e2 : x 2 = (.bool true) := hV 2 (by decide)
        have e3 : x 3 = (.bool true) := hV 3 (by decide)
        have e4 : x 4 = (.agg #[.int .i64 P, .slice A n c]) := hV 4 (by decide)
        have e5 : x 5 = (.slice X (pw n) cx) := hV 5 (by decide)
        obtain ⟨A6, c6, e6, h6⟩ := hV 6 (by decide)
        have q2 := hS.1; obtain ⟨q0, q1⟩ := hS.2.1.two
        go_simp
        exact hK.out _ _ _ rfl rfl rfl (Below.refl _ _)
      simp only [List.setIfInBounds_toArray, List.set_cons_zero, List.set_cons_succ]
      refine obs_step (Eq.trans (by simp only [List.getElem?_toArray, List.getElem?_cons_succ, List.getElem?_cons_zero]; exact rfl) rfl) rfl (fun w' hS hV K hK => ?_) ?_
      · have e0 : x 0 = (.slice (some ⟨gg, og, none⟩) 1 cg) := hV 0 (by decide)
        have e1 : x 1 = (.int .i64 ((1 : Nat))) := hV 1 (by decide)
        have e2 : x 2 = (.bool true) := hV 2 (by decide)
        have e3 : x 3 = (.bool true) := hV 3 (by decide)
        have q2 := hS.1; obtain ⟨q0, q1⟩ := hS.2.1.two
        go_simp
        exact hK.out _ _ _ rfl rfl rfl (Below.refl _ _)
      simp only [List.setIfInBounds_toArray, List.set_cons_zero, List.set_cons_succ]
      refine obs_step (Eq.trans (by simp only [List.getElem?_toArray, List.getElem?_cons_succ, List.getElem?_cons_zero]; exact rfl) rfl) rfl (fun w' hS hV K hK => ?_) ?_
      · have e0 : x 0 = (.slice (some ⟨gg, og, none⟩) 1 cg) := hV 0 (by decide)
        have e1 : x 1 = (.int .i64 ((1 : Nat))) := hV 1 (by decide)
        have e2 : x 2 = (.bool true) := hV 2 (by decide)
        have e3 : x 3 = (.bool true) := hV 3 (by decide)
        have e8 : x 8 = (.slice (some ⟨gg, og, none⟩) 1 cg) := hV 8 (by decide)
        have q2 := hS.1; obtain ⟨q0, q1⟩ := hS.2.1.two
        go_simp
        exact hK.out _ _ _ rfl rfl rfl (Below.refl _ _)
      simp only [List.setIfInBounds_toArray, List.set_cons_zero, List.set_cons_succ]
      refine obs_step (Eq.trans (by simp only [List.getElem?_toArray, List.getElem?_cons_succ, List.getElem?_cons_zero]; exact rfl) rfl) rfl (fun w' hS hV K hK => ?_) ?_
      · have e0 : x 0 = (.slice (some ⟨gg, og, none⟩) 1 cg) := hV 0 (by decide)
        have e1 : x 1 = (.int .i64 ((1 : Nat))) := hV 1 (by decide)
        have e2 : x 2 = (.bool true) := hV 2 (by decide)
        have e3 : x 3 = (.bool true) := hV 3 (by decide)
        have e8 : x 8 = (.slice (some ⟨gg, og, none⟩) 1 cg) := hV 8 (by decide)
        have e9 : x 9 = (.pointer (some ⟨gg, og, none⟩)) := hV 9 (by decide)
        have q2 := hS.1; obtain ⟨q0, q1⟩ := hS.2.1.two
        go_simp
        exact hK.out _ _ _ rfl rfl rfl (Below.refl _ _)
      simp only [List.setIfInBounds_toArray, List.set_cons_zero, List.set_cons_succ]
      refine obs_step (Eq.trans (by simp only [List.getElem?_toArray, List.getElem?_cons_succ, List.getElem?_cons_zero]; exact rfl) rfl) rfl (fun w' hS hV K hK => ?_) ?_
      · have e0 : x 0 = (.slice (some ⟨gg, og, none⟩) 1 cg) := hV 0 (by decide)
        have e1 : x 1 = (.int .i64 ((1 : Nat))) := hV 1 (by decide)
        have e2 : x 2 = (.bool true) := hV 2 (by decide)
        have e3 : x 3 = (.bool true) := hV 3 (by decide)
        have e4 : x 4 = (.agg #[.int .i64 P, .slice A n c]) := hV 4 (by decide)
        have e5 : x 5 = (.slice X (pw n) cx) := hV 5 (by decide)
        obtain ⟨A6, c6, e6, h6⟩ := hV 6 (by decide)
        have e7 : x 7 = (.int .i64 (q)) := hV 7 (by decide)
        have e8 : x 8 = (.slice (some ⟨gg, og, none⟩) 1 cg) := hV 8 (by decide)
        have e9 : x 9 = (.pointer (some ⟨gg, og, none⟩)) := hV 9 (by decide)
        have e10 : x 10 = (.int .i64 (gv)) := hV 10 (by decide)
        have q2 := hS.1; obtain ⟨q0, q1⟩ := hS.2.1.two
        go_simp
        exact hK.out _ _ _ rfl rfl rfl (Below.refl _ _)
      simp only [List.setIfInBounds_toArray, List.set_cons_zero, List.set_cons_succ]
      refine obs_step (Eq.trans (by simp only [List.getElem?_toArray, List.getElem?_cons_succ, List.getElem?_cons_zero]; exact rfl) rfl) rfl (fun w' hS hV K hK => ?_) ?_
      · have e0 : x 0 = (.slice (some ⟨gg, og, none⟩) 1 cg) := hV 0 (by decide)
        have e1 : x 1 = (.int .i64 ((1 : Nat))) := hV 1 (by decide)
        have e2 : x 2 = (.bool true) := hV 2 (by decide)
        have e3 : x 3 = (.bool true) := hV 3 (by decide)
        have e4 : x 4 = (.agg #[.int .i64 P, .slice A n c]) := hV 4 (by decide)
        have e5 : x 5 = (.slice X (pw n) cx) := hV 5 (by decide)
        obtain ⟨A6, c6, e6, h6⟩ := hV 6 (by decide)
        have e7 : x 7 = (.int .i64 (q)) := hV 7 (by decide)
        have e8 : x 8 = (.slice (some ⟨gg, og, none⟩) 1 cg) := hV 8 (by decide)
        have e9 : x 9 = (.pointer (some ⟨gg, og, none⟩)) := hV 9 (by decide)
        have e10 : x 10 = (.int .i64 (gv)) := hV 10 (by decide)
        have e11 : x 11 = (.bool true) := hV 11 (by decide)
        have q2 := hS.1; obtain ⟨q0, q1⟩ := hS.2.1.two
        go_simp
        exact hK.out _ _ _ rfl rfl rfl (Below.refl _ _)
      simp only [List.setIfInBounds_toArray, List.set_cons_zero, List.set_cons_succ]
      refine obs_step (Eq.trans (by simp only [List.getElem?_toArray, List.getElem?_cons_succ, List.getElem?_cons_zero]; exact rfl) rfl) rfl (fun w' hS hV K hK => ?_) ?_
      · have e0 : x 0 = (.slice (some ⟨gg, og, none⟩) 1 cg) := hV 0 (by decide)
        have e1 : x 1 = (.int .i64 ((1 : Nat))) := hV 1 (by decide)
        have e2 : x 2 = (.bool true) := hV 2 (by decide)
        have e3 : x 3 = (.bool true) := hV 3 (by decide)
        have e4 : x 4 = (.agg #[.int .i64 P, .slice A n c]) := hV 4 (by decide)
        have e5 : x 5 = (.slice X (pw n) cx) := hV 5 (by decide)
        obtain ⟨A6, c6, e6, h6⟩ := hV 6 (by decide)
        have e7 : x 7 = (.int .i64 (q)) := hV 7 (by decide)
        have e8 : x 8 = (.slice (some ⟨gg, og, none⟩) 1 cg) := hV 8 (by decide)
        have e9 : x 9 = (.pointer (some ⟨gg, og, none⟩)) := hV 9 (by decide)
        have e10 : x 10 = (.int .i64 (gv)) := hV 10 (by decide)
        have e11 : x 11 = (.bool true) := hV 11 (by decide)
        have e12 : x 12 = (.bool true) := hV 12 (by decide)
        have q2 := hS.1; obtain ⟨q0, q1⟩ := hS.2.1.two
        go_simp
        exact hK.out _ _ _ rfl rfl rfl (Below.refl _ _)
      simp only [List.setIfInBounds_toArray, List.set_cons_zero, List.set_cons_succ]
      refine fun w' hS hV => ?_
      have e0 : x 0 = (.slice (some ⟨gg, og, none⟩) 1 cg) := hV 0 (by decide)
      have e1 : x 1 = (.int .i64 ((1 : Nat))) := hV 1 (by decide)
      have e2 : x 2 = (.bool true) := hV 2 (by decide)
      have e3 : x 3 = (.bool true) := hV 3 (by decide)
      have e4 : x 4 = (.agg #[.int .i64 P, .slice A n c]) := hV 4 (by decide)
      have e5 : x 5 = (.slice X (pw n) cx) := hV 5 (by decide)
      obtain ⟨A6, c6, e6, h6⟩ := hV 6 (by decide)
      have e7 : x 7 = (.int .i64 (q)) := hV 7 (by decide)
      have e8 : x 8 = (.slice (some ⟨gg, og, none⟩) 1 cg) := hV 8 (by decide)
      have e9 : x 9 = (.pointer (some ⟨gg, og, none⟩)) := hV 9 (by decide)
      have e10 : x 10 = (.int .i64 (gv)) := hV 10 (by decide)
      have e11 : x 11 = (.bool true) := hV 11 (by decide)
      have e12 : x 12 = (.bool true) := hV 12 (by decide)
      have e13 : x 13 = (.bool true) := hV 13 (by decide)
      simp only [e0, e1, e2, e3, e4, e5, e6, e7, e8, e9, e10, e11, e12, e13]
      clear e0 e1 e2 e3 e4 e5 e6 e7 e8 e9 e10 e11 e12 e13
      refine wpAny_done (by kernel_rfl) ?_ _
      go_wp2
      go_ret
      exact ⟨ret_bool HZ.out.symm, hS.2.2⟩
  · have HZ : Hid (isBl P sq n xs = false) := Lib.hid (by rw [HGL.out]; simp [h1])
    have hm1 : (((m : Nat) : Int) == 1) = false := by simp; omega
    clear hgr hm
    go_wp2
    refine wp_obs 14 [[], [0], [0, 1], [0, 1, 2], [0, 1, 2, 3], [0, 1, 2, 3], [0, 1, 2, 3, 4, 5], [0, 1, 2, 3, 4, 5, 6], [0, 1, 2, 3], [0, 1, 2, 3, 8], [0, 1, 2, 3, 8, 9], [0, 1, 2, 3, 4, 5, 6, 7, 8, 9, 10], [0, 1, 2, 3, 4, 5, 6, 7, 8, 9, 10, 11], [0, 1, 2, 3, 4, 5, 6, 7, 8, 9, 10, 11, 12]] [VIs (.slice G m cg), VIs (.int .i64 (m)), VIs (.bool false), VIs (.bool false), VIs undef, VIs undef, VIs undef, VIs undef, VIs undef, VIs undef, VIs undef, VIs undef, VIs (.bool false), VIs (.bool false)] (fun w' => Blk w' w.heap.size 28 #[.int .i64 P, .slice A n c] ∧ Below w.heap.size w w') (by kernel_rfl) (by kernel_rfl) (fun _ _ h hb => ⟨h.1.below hb h.1.lt, h.2.trans (hb.mono h.2.size)⟩) (⟨k1.drew, hB1.drew⟩) (fun x => ?_)
    refine obs_step (Eq.trans (by simp only [List.getElem?_toArray, List.getElem?_cons_zero]; exact rfl) rfl) rfl (fun w' hS hV K hK => ?_) ?_
    · obtain ⟨q0, q1⟩ := hS.1.two
      go_simp
      exact hK.out _ _ _ rfl rfl rfl (Below.refl _ _)
    simp only [List.setIfInBounds_toArray, List.set_cons_zero, List.set_cons_succ]
    refine obs_step (Eq.trans (by simp only [List.getElem?_toArray, List.getElem?_cons_succ, List.getElem?_cons_zero]; exact rfl) rfl) rfl (fun w' hS hV K hK => ?_) ?_
    · have e0 : x 0 = (.slice G m cg) := hV 0 (by decide)
      obtain ⟨q0, q1⟩ := hS.1.two
      go_simp
      exact hK.out _ _ _ rfl rfl rfl (Below.refl _ _)
    simp only [List.setIfInBounds_toArray, List.set_cons_zero, List.set_cons_succ]
    refine obs_step (Eq.trans (by simp only [List.getElem?_toArray, List.getElem?_cons_succ, List.getElem?_cons_zero]; exact rfl) rfl) rfl (fun w' hS hV K hK => ?_) ?_
    · have e0 : x 0 = (.slice G m cg) := hV 0 (by decide)
      have e1 : x 1 = (.int .i64 (m)) := hV 1 (by decide)
      obtain ⟨q0, q1⟩ := hS.1.two
      go_simp
      exact hK.out _ _ _ rfl rfl rfl (Below.refl _ _)
    simp only [List.setIfInBounds_toArray, List.set_cons_zero, List.set_cons_succ]
    refine obs_step (Eq.trans (by simp only [List.getElem?_toArray, List.getElem?_cons_succ, List.getElem?_cons_zero]; exact rfl) rfl) rfl (fun w' hS hV K hK => ?_) ?_
    · have e0 : x 0 = (.slice G m cg) := hV 0 (by decide)
      have e1 : x 1 = (.int .i64 (m)) := hV 1 (by decide)
      have e2 : x 2 = (.bool false) := hV 2 (by decide)
      obtain ⟨q0, q1⟩ := hS.1.two
      go_simp
      exact hK.out _ _ _ rfl rfl rfl (Below.refl _ _)
    simp only [List.setIfInBounds_toArray, List.set_cons_zero, List.set_cons_succ]
    refine obs_step (Eq.trans (by simp only [List.getElem?_toArray, List.getElem?_cons_succ, List.getElem?_cons_zero]; exact rfl) rfl) rfl (fun w' hS hV K hK => ?_) ?_
    · have e0 : x 0 = (.slice G m cg) := hV 0 (by decide)
      have e1 : x 1 = (.int .i64 (m)) := hV 1 (by decide)
      have e2 : x 2 = (.bool false) := hV 2 (by decide)
      have e3 : x 3 = (.bool false) := hV 3 (by decide)
      obtain ⟨q0, q1⟩ := hS.1.two
      go_simp
      exact hK.out _ _ _ rfl rfl rfl (Below.refl _ _)
    simp only [List.setIfInBounds_toArray, List.set_cons_zero, List.set_cons_succ]
    refine obs_step (Eq.trans (by simp only [List.getElem?_toArray, List.getElem?_cons_succ, List.getElem?_cons_zero]; exact rfl) rfl) rfl (fun w' hS hV K hK => ?_) ?_
    · have e0 : x 0 = (.slice G m cg) := hV 0 (by decide)
      have e1 : x 1 = (.int .i64 (m)) := hV 1 (by decide)
      have e2 : x 2 = (.bool false) := hV 2 (by decide)
      have e3 : x 3 = (.bool false) := hV 3 (by decide)
      obtain ⟨q0, q1⟩ := hS.1.two
      go_simp
      exact hK.out _ _ _ rfl rfl rfl (Below.refl _ _)
    simp only [List.setIfInBounds_toArray, List.set_cons_zero, List.set_cons_succ]
    refine obs_step (Eq.trans (by simp only [List.getElem?_toArray, List.getElem?_cons_succ, List.getElem?_cons_zero]; exact rfl) rfl) rfl (fun w' hS hV K hK => ?_) ?_
    · have e0 : x 0 = (.slice G m cg) := hV 0 (by decide)
      have e1 : x 1 = (.int .i64 (m)) := hV 1 (by decide)
      have e2 : x 2 = (.bool false) := hV 2 (by decide)
      have e3 : x 3 = (.bool false) := hV 3 (by decide)
      have e4 : x 4 = undef := hV 4 (by decide)
      have e5 : x 5 = undef := hV 5 (by decide)
      obtain ⟨q0, q1⟩ := hS.1.two
      go_simp
      exact hK.out _ _ _ rfl rfl rfl (Below.refl _ _)
    simp only [List.setIfInBounds_toArray, List.set_cons_zero, List.set_cons_succ]
    refine obs_step (Eq.trans (by simp only [List.getElem?_toArray, List.getElem?_cons_succ, List.getElem?_cons_zero]; exact rfl) rfl) rfl (fun w' hS hV K hK => ?_) ?_
    · have e0 : x 0 = (.slice G m cg) := hV 0 (by decide)
      have e1 : x 1 = (.int .i64 (m)) := hV 1 (by decide)
      have e2 : x 2 = (.bool false) := hV 2 (by decide)
      have e3 : x 3 = (.bool false) := hV 3 (by decide)
      have e4 : x 4 = undef := hV 4 (by decide)
      have e5 : x 5 = undef := hV 5 (by decide)
      have e6 : x 6 = undef := hV 6 (by decide)
      obtain ⟨q0, q1⟩ := hS.1.two
      go_simp
      exact hK.out _ _ _ rfl rfl rfl (Below.refl _ _)
    simp only [List.setIfInBounds_toArray, List.set_cons_zero, List.set_cons_succ]
    refine obs_step (Eq.trans (by simp only [List.getElem?_toArray, List.getElem?_cons_succ, List.getElem?_cons_zero]; exact rfl) rfl) rfl (fun w' hS hV K hK => ?_) ?_
    · have e0 : x 0 = (.slice G m cg) := hV 0 (by decide)
      have e1 : x 1 = (.int .i64 (m)) := hV 1 (by decide)
      have e2 : x 2 = (.bool false) := hV 2 (by decide)
      have e3 : x 3 = (.bool false) := hV 3 (by decide)
      obtain ⟨q0, q1⟩ := hS.1.two
      go_simp
      exact hK.out _ _ _ rfl rfl rfl (Below.refl _ _)
    simp only [List.setIfInBounds_toArray, List.set_cons_zero, List.set_cons_succ]
    refine obs_step (Eq.trans (by simp only [List.getElem?_toArray, List.getElem?_cons_succ, List.getElem?_cons_zero]; exact rfl) rfl) rfl (fun w' hS hV K hK => ?_) ?_
    · have e0 : x 0 = (.slice G m cg) := hV 0 (by decide)
      have e1 : x 1 = (.int .i64 (m)) := hV 1 (by decide)
      have e2 : x 2 = (.bool false) := hV 2 (by decide)
      have e3 : x 3 = (.bool false) := hV 3 (by decide)
      have e8 : x 8 = undef := hV 8 (by decide)
      obtain ⟨q0, q1⟩ := hS.1.two
      go_simp
      exact hK.out _ _ _ rfl rfl rfl (Below.refl _ _)
    simp only [List.setIfInBounds_toArray, List.set_cons_zero, List.set_cons_succ]
    refine obs_step (Eq.trans (by simp only [List.getElem?_toArray, List.getElem?_cons_succ, List.getElem?_cons_zero]; exact rfl) rfl) rfl (fun w' hS hV K hK => ?_) ?_
    · have e0 : x 0 = (.slice G m cg) := hV 0 (by decide)
      have e1 : x 1 = (.int .i64 (m)) := hV 1 (by decide)
      have e2 : x 2 = (.bool false) := hV 2 (by decide)
      have e3 : x 3 = (.bool false) := hV 3 (by decide)
      have e8 : x 8 = undef := hV 8 (by decide)
      have e9 : x 9 = undef := hV 9 (by decide)
      obtain ⟨q0, q1⟩ := hS.1.two
      go_simp
      exact hK.out _ _ _ rfl rfl rfl (Below.refl _ _)
    simp only [List.setIfInBounds_toArray, List.set_cons_zero, List.set_cons_succ]
    refine obs_step (Eq.trans (by simp only [List.getElem?_toArray, List.getElem?_cons_succ, List.getElem?_cons_zero]; exact rfl) rfl) rfl (fun w' hS hV K hK => ?_) ?_
    · have e0 : x 0 = (.slice G m cg) := hV 0 (by decide)
      have e1 : x 1 = (.int .i64 (m)) := hV 1 (by decide)
      have e2 : x 2 = (.bool false) := hV 2 (by decide)
      have e3 : x 3 = (.bool false) := hV 3 (by decide)
      have e4 : x 4 = undef := hV 4 (by decide)
      have e5 : x 5 = undef := hV 5 (by decide)
      have e6 : x 6 = undef := hV 6 (by decide)
      have e7 : x 7 = undef := hV 7 (by decide)
      have e8 : x 8 = undef := hV 8 (by decide)
      have e9 : x 9 = undef := hV 9 (by decide)
      have e10 : x 10 = undef := hV 10 (by decide)
      obtain ⟨q0, q1⟩ := hS.1.two
      go_simp
      exact hK.out _ _ _ rfl rfl rfl (Below.refl _ _)
    simp only [List.setIfInBounds_toArray, List.set_cons_zero, List.set_cons_succ]
    refine obs_step (Eq.trans (by simp only [List.getElem?_toArray, List.getElem?_cons_succ, List.getElem?_cons_zero]; exact rfl) rfl) rfl (fun w' hS hV K hK => ?_) ?_
    · have e0 : x 0 = (.slice G m cg) := hV 0 (by decide)
      have e1 : x 1 = (.int .i64 (m)) := hV 1 (by decide)
      have e2 : x 2 = (.bool false) := hV 2 (by decide)
      have e3 : x 3 = (.bool false) := hV 3 (by decide)
      have e4 : x 4 = undef := hV 4 (by decide)
      have e5 : x 5 = undef := hV 5 (by decide)
      have e6 : x 6 = undef := hV 6 (by decide)
      have e7 : x 7 = undef := hV 7 (by decide)
      have e8 : x 8 = undef := hV 8 (by decide)
      have e9 : x 9 = undef := hV 9 (by decide)
      have e10 : x 10 = undef := hV 10 (by decide)
      have e11 : x 11 = undef := hV 11 (by decide)
      obtain ⟨q0, q1⟩ := hS.1.two
      go_simp
      exact hK.out _ _ _ rfl rfl rfl (Below.refl _ _)
    simp only [List.setIfInBounds_toArray, List.set_cons_zero, List.set_cons_succ]
    refine obs_step (Eq.trans (by simp only [List.getElem?_toArray, List.getElem?_cons_succ, List.getElem?_cons_zero]; exact rfl) rfl) rfl (fun w' hS hV K hK => ?_) ?_
    · have e0 : x 0 = (.slice G m cg) := hV 0 (by decide)
      have e1 : x 1 = (.int .i64 (m)) := hV 1 (by decide)
      have e2 : x 2 = (.bool false) := hV 2 (by decide)
      have e3 : x 3 = (.bool false) := hV 3 (by decide)
      have e4 : x 4 = undef := hV 4 (by decide)
      have e5 : x 5 = undef := hV 5 (by decide)
      have e6 : x 6 = undef := hV 6 (by decide)
      have e7 : x 7 = undef := hV 7 (by decide)
      have e8 : x 8 = undef := hV 8 (by decide)
      have e9 : x 9 = undef := hV 9 (by decide)
      have e10 : x 10 = undef := hV 10 (by decide)
      have e11 : x 11 = undef := hV 11 (by decide)
      have e12 : x 12 = (.bool false) := hV 12 (by decide)
      obtain ⟨q0, q1⟩ := hS.1.two
      go_simp
      exact hK.out _ _ _ rfl rfl rfl (Below.refl _ _)
    simp only [List.setIfInBounds_toArray, List.set_cons_zero, List.set_cons_succ]
    refine fun w' hS hV => ?_
    have e0 : x 0 = (.slice G m cg) := hV 0 (by decide)
    have e1 : x 1 = (.int .i64 (m)) := hV 1 (by decide)
    have e2 : x 2 = (.bool false) := hV 2 (by decide)
    have e3 : x 3 = (.bool false) := hV 3 (by decide)
    have e4 : x 4 = undef := hV 4 (by decide)
    have e5 : x 5 = undef := hV 5 (by decide)
    have e6 : x 6 = undef := hV 6 (by decide)
    have e7 : x 7 = undef := hV 7 (by decide)
    have e8 : x 8 = undef := hV 8 (by decide)
    have e9 : x 9 = undef := hV 9 (by decide)
    have e10 : x 10 = undef := hV 10 (by decide)
    have e11 : x 11 = undef := hV 11 (by decide)
    have e12 : x 12 = (.bool false) := hV 12 (by decide)
    have e13 : x 13 = (.bool false) := hV 13 (by decide)
    simp only [e0, e1, e2, e3, e4, e5, e6, e7, e8, e9, e10, e11, e12, e13]
    clear e0 e1 e2 e3 e4 e5 e6 e7 e8 e9 e10 e11 e12 e13
    refine wpAny_done (by kernel_rfl) ?_ _
    go_wp2
    go_ret
    exact ⟨ret_bool HZ.out.symm, hS.2⟩

set_option maxHeartbeats 3200000 in
set_option maxRecDepth 8000 in
theorem checkBlades_any (P : Int) (A B : Option Addr) (n c m d : Nat) (sq : List Int) (ms : List (List Int)) (w : World) (hn : n ≤ 1048576) (hm : m ≤ 1048576) (ha : Rd w A n (ints sq)) (hb : RdII w B m ms) (hms : ∀ ys ∈ ms, ys.length ≤ 1048576) :
    Calls Tryz.prog 60 #[.agg #[.int .i64 P, .slice A n c], .slice B m d] w fun e w' => e = .returned (.int .i64 (codeL P sq ms)) ∧ Below w.heap.size w w' := by
  have hB0 : Below w.heap.size w (w.alloc (.cells #[.int .i64 P, .slice A n c] 28)) := (Below.refl _ _).alloc (Nat.le_refl _) _
  have k0 : Blk (w.alloc (.cells #[.int .i64 P, .slice A n c] 28)) w.heap.size 28 #[.int .i64 P, .slice A n c] := Blk.new _ _ _
  have hcm := checkMultis_any P A B n c m d sq ms _ hn hm (ha.below hB0) (hb.below hB0) hms
  by_cases e1 : codeM P sq ms = 0
  · obtain ⟨HP, _, _, hd1, hd2, hs, hms2⟩ := codeM_spec3 e1
    have hnl := ha.lenI
    rw [hnl] at hd1 hd2
    have HNL := Lib.hid hnl
    have hml := hb.len
    rw [e1] at hcm
    have E1 := Lib.hid e1
    have HMS2 := Lib.hid hms2
    have HS := Lib.hid hs
    have HPP := Lib.hid HP
    have HML := Lib.hid hml
    clear e1 hms2 hms hs hml hnl HP
    go_enter Tryz.func60, Tryz.ntmps60
    go_wp2_with fail
    refine hcm.mono ?_
    rintro e w1 ⟨rfl, hb1⟩
    have hB1 := hB0.trans (hb1.mono (by simp))
    have k1 := k0.below hb1 k0.lt
    clear k0 hB0 hb1
    go_wp2
    go_loopw [7, 16] (fun _ i wr => ∃ k : Nat, k ≤ m ∧ i = .int .i64 k ∧ Hid ((ms.take k).all (isBl P sq n) = true) ∧ Below w.heap.size w wr ∧ Blk wr w.heap.size 28 #[.int .i64 P, .slice A n c]) (fun _ i _ => m - (intOf i).toNat)
    case atStart => exact ⟨0, by omega, rfl, Lib.hid (by simp), hB1, k1⟩
    case round =>
      obtain ⟨k, hk, rfl, HT, hBr, k2⟩ := hrel
      clear hB1 k1
      obtain ⟨q0, q1⟩ := k2.two
      by_cases hlt : k < m
      · obtain ⟨g, o, rfl, hxk, A', c', hcx, hr0, hcc⟩ := (hb.below hBr).at_ hlt
        have HXN := Lib.hid (HMS2.out ms[k] (List.getElem_mem hxk))
        have hl1 := HXN.out.1
        rw [HNL.out] at hl1
        rw [hl1] at hcx hr0
        have hcall := fun w' (hb : Below wr.heap.size wr w') => isBlade_any P A n c sq A' c' ms[k] w' HPP.out hd2 hd1 (ha.below (hBr.trans (hb.mono hBr.size))) HS.out (hr0.below hb) HXN.out.2
        have HC := Lib.hid hcall
        have HMEM := Lib.hid (List.getElem_mem hxk)
        have HTK : Hid (isBl P sq n ms[k] = true → (ms.take (k + 1)).all (isBl P sq n) = true) := Lib.hid (fun h => all_take3 hxk HT.out h)
        obtain ⟨x, hx⟩ : ∃ x, x = ms[k] := ⟨_, rfl⟩
        rw [← hx] at HC HMEM HTK
        clear hl1 hcall hr0 hcc hx HXN hxk
        cases ho : isBl P sq n x
        all_goals
          have HO := Lib.hid ho
          clear ho
          go_wp2_with fail
          refine (HC.out _ (Below.refl _ _)).mono ?_
          rintro e w2 ⟨rfl, hb2⟩
          rw [HO.out]
          have HB5 := hBr.trans (hb2.mono hBr.size)
          have K5 := k2.below hb2 k2.lt
          go_wp2
        · go_ret
          exact ⟨ret_int (codeL_bad E1.out HMEM.out (by rw [HNL.out]; exact HO.out)).symm, HB5⟩
        · go_roundw
          case rel => exact ⟨k + 1, by omega, by go_num, Lib.hid (HTK.out HO.out), HB5, K5⟩
          case measure => simp [intOf]; omega
      · go_wp2
        go_ret
        refine ⟨ret_int (codeL_good E1.out ?_).symm, hBr⟩
        have := HT.out
        rw [List.take_of_length_le (by rw [HML.out]; omega)] at this
        rw [HNL.out]; exact this
  · obtain ⟨r, hr⟩ : ∃ r, r = codeM P sq ms := ⟨_, rfl⟩
    have E1 := Lib.hid e1
    have HR := Lib.hid hr
    have b0 : (r != 0) = true := code_ne (by rw [hr]; exact e1)
    rw [← hr] at hcm
    clear e1 hr hms
    go_enter Tryz.func60, Tryz.ntmps60
    go_wp2_with fail
    refine hcm.mono ?_
    rintro e w1 ⟨rfl, hb1⟩
    go_wp2
    go_ret
    exact ⟨ret_int (by rw [codeL_ne E1.out, HR.out]), hB0.trans (hb1.mono (by simp))⟩

set_option maxHeartbeats 3200000 in
set_option maxRecDepth 8000 in
theorem l06Code_any (P : Int) (A B : Option Addr) (n c m d : Nat) (sq : List Int) (ms : List (List Int)) (w : World) (hn : n ≤ 1048576) (hm : m ≤ 1048576) (ha : Rd w A n (ints sq)) (hb : RdII w B m ms) (hms : ∀ ys ∈ ms, ys.length ≤ 1048576) :
    Calls Tryz.prog 58 #[.agg #[.int .i64 P, .slice A n c], .slice B m d] w fun e w' => e = .returned (.int .i64 (codeL P sq ms)) ∧ Below w.heap.size w w' := by
  have hB0 : Below w.heap.size w (w.alloc (.cells #[.int .i64 P, .slice A n c] 28)) := (Below.refl _ _).alloc (Nat.le_refl _) _
  have k0 : Blk (w.alloc (.cells #[.int .i64 P, .slice A n c] 28)) w.heap.size 28 #[.int .i64 P, .slice A n c] := Blk.new _ _ _
  have hcm := l04Code_any P A B n c m d sq ms _ hn hm (ha.below hB0) (hb.below hB0) hms
  by_cases e1 : codeM P sq ms = 0
  · obtain ⟨HP, _, _, hd1, hd2, hs, hms2⟩ := codeM_spec3 e1
    have hnl := ha.lenI
    rw [hnl] at hd1 hd2
    have HNL := Lib.hid hnl
    have hml := hb.len
    rw [e1] at hcm
    have E1 := Lib.hid e1
    have HMS2 := Lib.hid hms2
    have HS := Lib.hid hs
    have HPP := Lib.hid HP
    have HML := Lib.hid hml
    clear e1 hms2 hms hs hml hnl HP
    go_enter Tryz.func58, Tryz.ntmps58
    go_wp2_with fail
    refine hcm.mono ?_
    rintro e w1 ⟨rfl, hb1⟩
    have hB1 := hB0.trans (hb1.mono (by simp))
    have k1 := k0.below hb1 k0.lt
    clear k0 hB0 hb1
    go_wp2
    go_loopw [6] (fun i wr => ∃ k : Nat, k ≤ m ∧ i = .int .i64 k ∧ Hid ((ms.take k).all (isBl P sq n) = true) ∧ Below w.heap.size w wr ∧ Blk wr w.heap.size 28 #[.int .i64 P, .slice A n c]) (fun i _ => m - (intOf i).toNat)
    case atStart => exact ⟨0, by omega, rfl, Lib.hid (by simp), hB1, k1⟩
    case round =>
      obtain ⟨k, hk, rfl, HT, hBr, k2⟩ := hrel
      clear hB1 k1
      obtain ⟨q0, q1⟩ := k2.two
      by_cases hlt : k < m
      · obtain ⟨g, o, rfl, hxk, A', c', hcx, hr0, hcc⟩ := (hb.below hBr).at_ hlt
        have HXN := Lib.hid (HMS2.out ms[k] (List.getElem_mem hxk))
        have hl1 := HXN.out.1
        rw [HNL.out] at hl1
        rw [hl1] at hcx hr0
        have hcall := fun w' (hb : Below wr.heap.size wr w') => l06Is_any P A n c sq A' c' ms[k] w' HPP.out hd2 hd1 (ha.below (hBr.trans (hb.mono hBr.size))) HS.out (hr0.below hb) HXN.out.2
        have HC := Lib.hid hcall
        have HMEM := Lib.hid (List.getElem_mem hxk)
        have HTK : Hid (isBl P sq n ms[k] = true → (ms.take (k + 1)).all (isBl P sq n) = true) := Lib.hid (fun h => all_take3 hxk HT.out h)
        obtain ⟨x, hx⟩ : ∃ x, x = ms[k] := ⟨_, rfl⟩
        rw [← hx] at HC HMEM HTK
        clear hl1 hcall hr0 hcc hx HXN hxk
        cases ho : isBl P sq n x
        all_goals
          have HO := Lib.hid ho
          clear ho
          go_wp2
          refine wp_obs 7 [[], [], [], [1, 2], [1, 2, 3], [0, 1, 2, 3, 4], [0, 1, 2, 3, 4, 5]] [VIs (.agg #[.int .i64 P, .slice A n c]), VIs (.slice (some ⟨g, o, none⟩) m d), VIs (.int .i64 (k)), VIs (.pointer (some ⟨g, o + k, none⟩)), VIs (.slice A' (pw n) c'), VIs (.bool (isBl P sq n x)), VIs (.bool (!isBl P sq n x))] (fun w' => w'.cell? ⟨g, o + k, none⟩ = some (.slice A' (pw n) c') ∧ Blk w' w.heap.size 28 #[.int .i64 P, .slice A n c] ∧ Below wr.heap.size wr w') (by kernel_rfl) (by kernel_rfl) (fun _ _ h hb => ⟨(hb.cell (World.block_lt_of_cell? _ _ h.1)).trans h.1, h.2.1.below hb h.2.1.lt, h.2.2.trans (hb.mono h.2.2.size)⟩) (⟨hcx, k2.drew, (Below.refl _ _).drew⟩) (fun xv => ?_)
          refine obs_step (Eq.trans (by simp only [List.getElem?_toArray, List.getElem?_cons_zero]; exact rfl) rfl) rfl (fun w' hS hV K hK => ?_) ?_
          · have q2 := hS.1; obtain ⟨q0, q1⟩ := hS.2.1.two
            go_simp
            exact hK.out _ _ _ rfl rfl rfl (Below.refl _ _)
          simp only [List.setIfInBounds_toArray, List.set_cons_zero, List.set_cons_succ]
          refine obs_step (Eq.trans (by simp only [List.getElem?_toArray, List.getElem?_cons_succ, List.getElem?_cons_zero]; exact rfl) rfl) rfl (fun w' hS hV K hK => ?_) ?_
          · have q2 := hS.1; obtain ⟨q0, q1⟩ := hS.2.1.two
            go_simp
            exact hK.out _ _ _ rfl rfl rfl (Below.refl _ _)
          simp only [List.setIfInBounds_toArray, List.set_cons_zero, List.set_cons_succ]
          refine obs_step (Eq.trans (by simp only [List.getElem?_toArray, List.getElem?_cons_succ, List.getElem?_cons_zero]; exact rfl) rfl) rfl (fun w' hS hV K hK => ?_) ?_
          · have q2 := hS.1; obtain ⟨q0, q1⟩ := hS.2.1.two
            go_simp
            exact hK.out _ _ _ rfl rfl rfl (Below.refl _ _)
          simp only [List.setIfInBounds_toArray, List.set_cons_zero, List.set_cons_succ]
          refine obs_step (Eq.trans (by simp only [List.getElem?_toArray, List.getElem?_cons_succ, List.getElem?_cons_zero]; exact rfl) rfl) rfl (fun w' hS hV K hK => ?_) ?_
          · have e1 : xv 1 = (.slice (some ⟨g, o, none⟩) m d) := hV 1 (by decide)
            have e2 : xv 2 = (.int .i64 (k)) := hV 2 (by decide)
            have q2 := hS.1; obtain ⟨q0, q1⟩ := hS.2.1.two
            go_simp
            exact hK.out _ _ _ rfl rfl rfl (Below.refl _ _)
          simp only [List.setIfInBounds_toArray, List.set_cons_zero, List.set_cons_succ]
          refine obs_step (Eq.trans (by simp only [List.getElem?_toArray, List.getElem?_cons_succ, List.getElem?_cons_zero]; exact rfl) rfl) rfl (fun w' hS hV K hK => ?_) ?_
          · have e1 : xv 1 = (.slice (some ⟨g, o, none⟩) m d) := hV 1 (by decide)
            have e2 : xv 2 = (.int .i64 (k)) := hV 2 (by decide)
            have e3 : xv 3 = (.pointer (some ⟨g, o + k, none⟩)) := hV 3 (by decide)
            have q2 := hS.1; obtain ⟨q0, q1⟩ := hS.2.1.two
            go_simp
            exact hK.out _ _ _ rfl rfl rfl (Below.refl _ _)
          simp only [List.setIfInBounds_toArray, List.set_cons_zero, List.set_cons_succ]
          refine obs_step (Eq.trans (by simp only [List.getElem?_toArray, List.getElem?_cons_succ, List.getElem?_cons_zero]; exact rfl) rfl) rfl (fun w' hS hV K hK => ?_) ?_
          · have e0 : xv 0 = (.agg #[.int .i64 P, .slice A n c]) := hV 0 (by decide)
            have e1 : xv 1 = (.slice (some ⟨g, o, none⟩) m d) := hV 1 (by decide)
            have e2 : xv 2 = (.int .i64 (k)) := hV 2 (by decide)
            have e3 : xv 3 = (.pointer (some ⟨g, o + k, none⟩)) := hV 3 (by decide)
            have e4 : xv 4 = (.slice A' (pw n) c') := hV 4 (by decide)
            have q2 := hS.1; obtain ⟨q0, q1⟩ := hS.2.1.two
            go_simp
            refine (HC.out _ hS.2.2).mono ?_
            rintro e v1 ⟨rfl, hb⟩
            exact hK.out _ _ _ rfl rfl rfl hb
          simp only [List.setIfInBounds_toArray, List.set_cons_zero, List.set_cons_succ]
          refine obs_step (Eq.trans (by simp only [List.getElem?_toArray, List.getElem?_cons_succ, List.getElem?_cons_zero]; exact rfl) rfl) rfl (fun w' hS hV K hK => ?_) ?_
          · have e0 : xv 0 = (.agg #[.int .i64 P, .slice A n c]) := hV 0 (by decide)
            have e1 : xv 1 = (.slice (some ⟨g, o, none⟩) m d) := hV 1 (by decide)
            have e2 : xv 2 = (.int .i64 (k)) := hV 2 (by decide)
            have e3 : xv 3 = (.pointer (some ⟨g, o + k, none⟩)) := hV 3 (by decide)
            have e4 : xv 4 = (.slice A' (pw n) c') := hV 4 (by decide)
            have e5 : xv 5 = (.bool (isBl P sq n x)) := hV 5 (by decide)
            have q2 := hS.1; obtain ⟨q0, q1⟩ := hS.2.1.two
            go_simp
            exact hK.out _ _ _ rfl rfl rfl (Below.refl _ _)
          simp only [List.setIfInBounds_toArray, List.set_cons_zero, List.set_cons_succ]
          refine fun w' hS hV => ?_
          have e0 : xv 0 = (.agg #[.int .i64 P, .slice A n c]) := hV 0 (by decide)
          have e1 : xv 1 = (.slice (some ⟨g, o, none⟩) m d) := hV 1 (by decide)
          have e2 : xv 2 = (.int .i64 (k)) := hV 2 (by decide)
          have e3 : xv 3 = (.pointer (some ⟨g, o + k, none⟩)) := hV 3 (by decide)
          have e4 : xv 4 = (.slice A' (pw n) c') := hV 4 (by decide)
          have e5 : xv 5 = (.bool (isBl P sq n x)) := hV 5 (by decide)
          have e6 : xv 6 = (.bool (!isBl P sq n x)) := hV 6 (by decide)
          simp only [e0, e1, e2, e3, e4, e5, e6]
          clear e0 e1 e2 e3 e4 e5 e6
          refine wpAny_done (by kernel_rfl) ?_ _
          rw [HO.out]
          have HB5 := hBr.trans (hS.2.2.mono hBr.size)
          have K5 := hS.2.1
          go_wp2
        · go_ret
          exact ⟨ret_int (codeL_bad E1.out HMEM.out (by rw [HNL.out]; exact HO.out)).symm, HB5⟩
        · go_roundw
          case rel => exact ⟨k + 1, by omega, by go_num, Lib.hid (HTK.out HO.out), HB5, K5⟩
          case measure => simp [intOf]; omega
      · go_wp2
        go_ret
        refine ⟨ret_int (codeL_good E1.out ?_).symm, hBr⟩
        have := HT.out
        rw [List.take_of_length_le (by rw [HML.out]; omega)] at this
        rw [HNL.out]; exact this
  · obtain ⟨r, hr⟩ : ∃ r, r = codeM P sq ms := ⟨_, rfl⟩
    have E1 := Lib.hid e1
    have HR := Lib.hid hr
    have b0 : (r != 0) = true := code_ne (by rw [hr]; exact e1)
    rw [← hr] at hcm
    clear e1 hr hms
    go_enter Tryz.func58, Tryz.ntmps58
    go_wp2_with fail
    refine hcm.mono ?_
    rintro e w1 ⟨rfl, hb1⟩
    go_wp2
    go_ret
    exact ⟨ret_int (by rw [codeL_ne E1.out, HR.out]), hB0.trans (hb1.mono (by simp))⟩

end Go.Proofs.YtommppijnccomaaGreat

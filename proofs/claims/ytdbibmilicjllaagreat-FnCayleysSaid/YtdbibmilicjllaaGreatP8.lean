/-
  LawFnCayleys: part 8 of the texts that the proof needs. No condition.
-/
import Derived.Test.YtdbibmilicjllaaGreatP7
namespace Go.Proofs.YtdbibmilicjllaaGreat
open Go.RowKit
theorem onePl_take {p : Int} {M : List (List Int)} {k : Nat} {j : Int} (h : k < M.length) : (onePl p M j).take (k + 1) = (onePl p M j).take k ++ [plusL p (unitRow M.length k) (M.getD k []) j] := by
  have hl : k < (onePl p M j).length := by rw [onePl_len]; exact h
  rw [List.take_succ_eq_append_getElem hl]
  congr 2
  rw [← getD_of_lt [] hl]
  unfold onePl
  rw [tab_getD h]
section
variable {w0 w w' : World} {A B : Option Addr} {n c m d : Nat} {xss yss : List (List Int)}
/-- A list of rows stays when another one grows. -/
theorem MkII.beside (h : MkII w0 w B m d yss) (hA : MkII w0 w A n c xss) (hg : w.grownBy w' (Value.slice A n c).ownBlock) (hb : Below w0.heap.size w0 w') (hne : ∀ g, (Value.slice A n c).ownBlock = some g → (Value.slice B m d).ownBlock ≠ some g) : MkII w0 w' B m d yss := by
  obtain ⟨rows, hm, hn⟩ := h
  obtain ⟨ra, ha, _⟩ := hA
  refine ⟨rows, ⟨hb, hm.2.grown hg ?_⟩, hn.grown ha.2 (by decide) hg⟩
  cases hB : (Value.slice B m d).ownBlock with
  | none => exact .inl rfl
  | some g => exact .inr fun e => hne g e.symm hB
theorem Grows.other {w3 wr v : World} {g g' : Nat} {x y : Value} (hB : Grows w3 wr g x) (hA : Grows w3 v g' y) : Grows w3 v g x := ⟨hA.1, hA.2.1, hB.2.2⟩
theorem MkII.blk_lt (h : MkII w0 w A n c xss) {g : Nat} (e : (Value.slice A n c).ownBlock = some g) : g < w.heap.size := by
  obtain ⟨rows, hm, _⟩ := h
  exact (World.ownsRow.lt hm.2 g e).2
/-- The grown list lies beside the other one. -/
theorem beside_next {A' : Option Addr} {n' c' s : Nat} (hne : ∀ g, (Value.slice A n c).ownBlock = some g → (Value.slice B m d).ownBlock ≠ some g) (hB : ∀ g, (Value.slice B m d).ownBlock = some g → g < s)
    (hat : ∃ g, A' = some ⟨g, 0, none⟩ ∧ ((Value.slice A n c).ownBlock = some g ∨ s ≤ g)) : ∀ g, (Value.slice A' n' c').ownBlock = some g → (Value.slice B m d).ownBlock ≠ some g := by
  obtain ⟨g0, rfl, hor⟩ := hat
  intro g hg e
  have : g0 = g := by simpa [Value.ownBlock] using hg
  subst this
  rcases hor with h | h
  · exact hne g0 h e
  · have := hB g0 e; omega
end
set_option maxHeartbeats 3200000 in
set_option maxRecDepth 8000 in
theorem sum_any (p : Int) (U : Option Addr) (n cu : Nat) (A : Option Addr) (c : Nat) (M : List (List Int)) (kk : Int) (w : World) (hp : 2 ≤ p) (hp2 : p ≤ 13) (hn : n ≤ 65536) (hu : RdII w U n (unitM n)) (ha : RdII w A n M) (hT : Tab p n M) (hk1 : -1000 ≤ kk) (hk2 : kk ≤ 1000) :
    Calls Tryz.prog 174 #[.int .i64 p, .slice U n cu, .slice A n c, .int .i64 kk] w fun e w' => ∃ (A' : Option Addr) (c' : Nat), e = .returned (.slice A' n c') ∧ MkII w w' A' n c' (onePl p M kk) := by
  have HM := Lib.hid hT
  have HL := Lib.hid ha.len
  have HOL : Hid ((onePl p M kk).length = n) := Lib.hid ((onePl_len p M kk).trans ha.len)
  obtain ⟨w3, hw3⟩ : ∃ W, W = w.alloc (.cells #[] 24) := ⟨_, rfl⟩
  have hA0 : Below w.heap.size w w3 := by rw [hw3]; exact (Below.refl _ _).alloc (Nat.le_refl _) _
  have hO3 : MkII w w3 (some ⟨w.heap.size, 0, none⟩) 0 0 [] := by rw [hw3]; exact MkII.empty (Below.refl _ _)
  have hE3 : Blk w3 w.heap.size 24 #[] := by rw [hw3]; exact Blk.new _ _ _
  have a3 := ha.below hA0
  have u3 := hu.below hA0
  have hgr0 : Grows w3 w3 w.heap.size (.slice (some ⟨w.heap.size, 0, none⟩) 0 0) := ⟨CK.refl _, Nat.le_refl _, fun gb h => .inl (by simpa [Value.ownBlock] using h.symm)⟩
  clear hT ha hu
  go_enter Tryz.func174, Tryz.ntmps174
  go_wp2
  rw [← hw3]
  obtain ⟨g3, hg3⟩ : ∃ g, g = w.heap.size := ⟨_, rfl⟩
  rw [← hg3] at hO3 hE3 hgr0 ⊢
  clear hw3 hg3
  go_loopw [9, 14] (fun out i wr => ∃ (k : Nat) (A' : Option Addr) (c' : Nat), k ≤ n ∧ i = .int .i64 k ∧ out = .slice A' k c' ∧ MkII w wr A' k c' ((onePl p M kk).take k) ∧ Grows w3 wr g3 (.slice A' k c')) (fun _ i _ => n - (intOf i).toNat)
  case atStart => exact ⟨0, _, _, by omega, rfl, rfl, by simpa using hO3, hgr0⟩
  case round =>
    obtain ⟨k, A', c', hk, rfl, rfl, hM, hgr⟩ := hrel
    clear hO3 hgr0
    by_cases hlt : k < n
    · obtain ⟨ga, oa, rfl, hxk, Ak, ck, hck, hrk, hcc⟩ := (a3.ck hgr.1).at_ hlt
      obtain ⟨gu, ou, rfl, hxu, Uk, cu2, hcu, hru, hcuc⟩ := (u3.ck hgr.1).at_ hlt
      have hlk : M[k].length = n := (HM.out M[k] (List.getElem_mem hxk)).1
      have hnk : NumsL p M[k] := (HM.out M[k] (List.getElem_mem hxk)).2
      have hlu : (unitM n)[k] = unitRow n k := unitM_get n k hxu
      rw [hlk] at hck hrk hcc
      rw [hlu, unitRow_len] at hcu hcuc
      have hru2 : Rd wr Uk n (ints (unitRow n k)) := by have h := hru; simp only [hlu, unitRow_len] at h; exact h
      have HGD : Hid (M.getD k [] = M[k]) := Lib.hid (getD_of_lt [] hxk)
      obtain ⟨X, hX⟩ : ∃ X, X = M[k] := ⟨_, rfl⟩
      rw [← hX] at hrk hlk hnk HGD
      have HXL : Hid (k < M.length) := Lib.hid hxk
      clear hX hxk hru hlu hxu hcc hcuc
      have HPL := Lib.hid fun (w' : World) (h : Below wr.heap.size wr w') => plus_any p Uk n cu2 Ak n ck kk (unitRow n k) X w' hp hp2 hn (Nat.le_refl _) (hru2.below h) (unitRow_nums hp n k) (hrk.below h) hnk hk1 hk2
      obtain ⟨Y, hY⟩ : ∃ Y, Y = plusL p (unitRow n k) X kk := ⟨_, rfl⟩
      have HAP : Hid ((onePl p M kk).take (k + 1) = (onePl p M kk).take k ++ [Y]) := Lib.hid (by rw [onePl_take HXL.out, HL.out, HGD.out, hY])
      rw [← hY] at HPL
      have HMM := Lib.hid hM
      have HGR := Lib.hid hgr
      clear hrk hru2 hlk hY hM hgr hnk
      go_wp2
      refine wp_obs 13 [[], [], [], [], [2, 3], [2, 3, 4], [], [], [6, 7], [6, 7, 8], [], [1, 2, 3, 4, 5, 6, 7, 8, 9, 10], [1, 2, 3, 4, 5, 6, 7, 8, 9, 10, 11], [0, 1, 2, 3, 4, 5, 6, 7, 8, 9, 10, 11, 12], [0, 1, 2, 3, 4, 5, 6, 7, 8, 9, 10, 11, 12, 13]] [VIs (.slice A' k c'), VIs (.int .i64 (p)), VIs (.slice (some ⟨gu, ou, none⟩) n cu), VIs (.int .i64 (k)), VIs (.pointer (some ⟨gu, ou + k, none⟩)), VIs (.slice Uk n cu2), VIs (.slice (some ⟨ga, oa, none⟩) n c), VIs (.int .i64 (k)), VIs (.pointer (some ⟨ga, oa + k, none⟩)), VIs (.slice Ak n ck), VIs (.int .i64 (kk)), VSl wr n Y, VNew wr n Y] (fun w' => w'.cell? ⟨gu, ou + k, none⟩ = some (.slice Uk n cu2) ∧ w'.cell? ⟨ga, oa + k, none⟩ = some (.slice Ak n ck) ∧ Below wr.heap.size wr w') (by kernel_rfl) (by kernel_rfl) (fun _ _ h hb => ⟨(hb.cell (World.block_lt_of_cell? _ _ h.1)).trans h.1, (hb.cell (World.block_lt_of_cell? _ _ h.2.1)).trans h.2.1, h.2.2.trans (hb.mono h.2.2.size)⟩) (⟨hcu, hck, (Below.refl _ _).drew⟩) (fun x => ?_)
      refine obs_step (Eq.trans (by simp only [zA, zC]; exact rfl) rfl) rfl (fun w' hS hV K hK => ?_) ?_
      · have q0 := hS.1; have q1 := hS.2.1
        go_simp
        exact hK.out _ _ _ rfl rfl rfl (Below.refl _ _)
      simp only [zD, zE, zF]
      refine obs_step (Eq.trans (by simp only [zA, zB, zC]; exact rfl) rfl) rfl (fun w' hS hV K hK => ?_) ?_
      · have q0 := hS.1; have q1 := hS.2.1
        go_simp
        exact hK.out _ _ _ rfl rfl rfl (Below.refl _ _)
      simp only [zD, zE, zF]
      refine obs_step (Eq.trans (by simp only [zA, zB, zC]; exact rfl) rfl) rfl (fun w' hS hV K hK => ?_) ?_
      · have q0 := hS.1; have q1 := hS.2.1
        go_simp
        exact hK.out _ _ _ rfl rfl rfl (Below.refl _ _)
      simp only [zD, zE, zF]
      refine obs_step (Eq.trans (by simp only [zA, zB, zC]; exact rfl) rfl) rfl (fun w' hS hV K hK => ?_) ?_
      · have q0 := hS.1; have q1 := hS.2.1
        go_simp
        exact hK.out _ _ _ rfl rfl rfl (Below.refl _ _)
      simp only [zD, zE, zF]
      refine obs_step (Eq.trans (by simp only [zA, zB, zC]; exact rfl) rfl) rfl (fun w' hS hV K hK => ?_) ?_
      · have e2 : x 2 = (.slice (some ⟨gu, ou, none⟩) n cu) := hV 2 (by decide)
        have e3 : x 3 = (.int .i64 (k)) := hV 3 (by decide)
        have q0 := hS.1; have q1 := hS.2.1
        go_simp
        exact hK.out _ _ _ rfl rfl rfl (Below.refl _ _)
      simp only [zD, zE, zF]
      refine obs_step (Eq.trans (by simp only [zA, zB, zC]; exact rfl) rfl) rfl (fun w' hS hV K hK => ?_) ?_
      · have e4 : x 4 = (.pointer (some ⟨gu, ou + k, none⟩)) := hV 4 (by decide)
        have q0 := hS.1; have q1 := hS.2.1
        go_simp
        exact hK.out _ _ _ rfl rfl rfl (Below.refl _ _)
      simp only [zD, zE, zF]
      refine obs_step (Eq.trans (by simp only [zA, zB, zC]; exact rfl) rfl) rfl (fun w' hS hV K hK => ?_) ?_
      · have q0 := hS.1; have q1 := hS.2.1
        go_simp
        exact hK.out _ _ _ rfl rfl rfl (Below.refl _ _)
      simp only [zD, zE, zF]
      refine obs_step (Eq.trans (by simp only [zA, zB, zC]; exact rfl) rfl) rfl (fun w' hS hV K hK => ?_) ?_
      · have q0 := hS.1; have q1 := hS.2.1
        go_simp
        exact hK.out _ _ _ rfl rfl rfl (Below.refl _ _)
      simp only [zD, zE, zF]
      refine obs_step (Eq.trans (by simp only [zA, zB, zC]; exact rfl) rfl) rfl (fun w' hS hV K hK => ?_) ?_
      · have e6 : x 6 = (.slice (some ⟨ga, oa, none⟩) n c) := hV 6 (by decide)
        have e7 : x 7 = (.int .i64 (k)) := hV 7 (by decide)
        have q0 := hS.1; have q1 := hS.2.1
        go_simp
        exact hK.out _ _ _ rfl rfl rfl (Below.refl _ _)
      simp only [zD, zE, zF]
      refine obs_step (Eq.trans (by simp only [zA, zB, zC]; exact rfl) rfl) rfl (fun w' hS hV K hK => ?_) ?_
      · have e8 : x 8 = (.pointer (some ⟨ga, oa + k, none⟩)) := hV 8 (by decide)
        have q0 := hS.1; have q1 := hS.2.1
        go_simp
        exact hK.out _ _ _ rfl rfl rfl (Below.refl _ _)
      simp only [zD, zE, zF]
      refine obs_step (Eq.trans (by simp only [zA, zB, zC]; exact rfl) rfl) rfl (fun w' hS hV K hK => ?_) ?_
      · have q0 := hS.1; have q1 := hS.2.1
        go_simp
        exact hK.out _ _ _ rfl rfl rfl (Below.refl _ _)
      simp only [zD, zE, zF]
      refine obs_step (Eq.trans (by simp only [zA, zB, zC]; exact rfl) rfl) rfl (fun w' hS hV K hK => ?_) ?_
      · have e1 : x 1 = (.int .i64 (p)) := hV 1 (by decide)
        have e5 : x 5 = (.slice Uk n cu2) := hV 5 (by decide)
        have e9 : x 9 = (.slice Ak n ck) := hV 9 (by decide)
        have e10 : x 10 = (.int .i64 (kk)) := hV 10 (by decide)
        have q0 := hS.1; have q1 := hS.2.1
        go_simp
        refine (HPL.out _ hS.2.2).mono ?_
        rintro e v1 ⟨A9, c9, rfl, hM⟩
        exact hK.out _ _ _ rfl rfl ⟨_, _, rfl, hM.after hS.2.2⟩ hM.b
      simp only [zD, zE, zF]
      refine obs_step (Eq.trans (by simp only [zA, zB, zC]; exact rfl) rfl) rfl (fun w' hS hV K hK => ?_) ?_
      · obtain ⟨A11, c11, e11, h11⟩ := hV 11 (by decide)
        have q0 := hS.1; have q1 := hS.2.1
        go_simp
        exact hK.out _ _ _ rfl rfl ⟨_, _, _, rfl, Blk.new _ _ _, h11.below ((Below.refl _ _).alloc (Nat.le_refl _) _)⟩ ((Below.refl _ _).alloc (Nat.le_refl _) _)
      simp only [zD, zE, zF]
      refine fun w' hS hV => ?_
      have e0 : x 0 = (.slice A' k c') := hV 0 (by decide)
      have e1 : x 1 = (.int .i64 (p)) := hV 1 (by decide)
      have e2 : x 2 = (.slice (some ⟨gu, ou, none⟩) n cu) := hV 2 (by decide)
      have e3 : x 3 = (.int .i64 (k)) := hV 3 (by decide)
      have e4 : x 4 = (.pointer (some ⟨gu, ou + k, none⟩)) := hV 4 (by decide)
      have e5 : x 5 = (.slice Uk n cu2) := hV 5 (by decide)
      have e6 : x 6 = (.slice (some ⟨ga, oa, none⟩) n c) := hV 6 (by decide)
      have e7 : x 7 = (.int .i64 (k)) := hV 7 (by decide)
      have e8 : x 8 = (.pointer (some ⟨ga, oa + k, none⟩)) := hV 8 (by decide)
      have e9 : x 9 = (.slice Ak n ck) := hV 9 (by decide)
      have e10 : x 10 = (.int .i64 (kk)) := hV 10 (by decide)
      obtain ⟨A11, c11, e11, h11⟩ := hV 11 (by decide)
      obtain ⟨g12, A12, c12, e12, b12, h12⟩ := hV 12 (by decide)
      simp only [e0, e1, e2, e3, e4, e5, e6, e7, e8, e9, e10, e11, e12]
      clear e0 e1 e2 e3 e4 e5 e6 e7 e8 e9 e10 e11 e12
      obtain ⟨-, -, s2⟩ := hS
      refine any_plain (j := 13) (by kernel_rfl) (Eq.trans (by simp only [zA, zB, zC]; exact rfl) rfl) rfl (fun K hK => ?_)
      refine wp_appRow w wr w' _ _ rfl A' k c' _ A12 n c12 _ HMM.out h12 (by omega) g12 b12 (by rfl) (by rfl) ?_
      intro A20 c20 w20 hM20 hg20 hat20
      refine hK.out _ _ ?_
      simp only [Act.put, zD, zE, zF]
      refine any_one (j := 14) (by kernel_rfl) (Eq.trans (by simp only [zA, zB, zC]; exact rfl) rfl) (fun K hK => ?_)
      go_simp
      refine hK.out _ _ (wpAny_done (by kernel_rfl) ?_ _)
      have hgr7 := HGR.out.step (n' := k + 1) (c' := c20) hE3 s2 hg20 hat20
      clear hg20 hat20 s2
      go_wp2
      go_roundw
      case rel => exact ⟨k + 1, A20, c20, by omega, by go_num, rfl, by rw [HAP.out]; exact hM20, hgr7⟩
      case measure => simp [intOf]; omega
    · obtain rfl : k = n := by omega
      rw [List.take_of_length_le (by rw [HOL.out]; omega)] at hM
      go_wp2
      go_ret
      exact ⟨_, _, rfl, hM⟩
set_option maxHeartbeats 3200000 in
set_option maxRecDepth 8000 in
theorem cayley_any (P : Int) (A : Option Addr) (n c : Nat) (sq : List Int) (D : Option Addr) (d : Nat) (M : List (List Int)) (w : World) (HP : isP P = true) (hn0 : 0 < n) (hn : n ≤ 6) (hd : RdII w D n M) (hT : Tab P n M) :
    Calls Tryz.prog 140 #[.agg #[.int .i64 P, .slice A n c], .slice D n d] w fun e w' => ∃ (A' : Option Addr) (k c' : Nat), e = .returned (.tuple #[.slice A' k c', .bool (decide (detL P (onePl P M 1) ≠ 0))]) ∧ MkII w w' A' k c' (if detL P (onePl P M 1) ≠ 0 then cayL P M else []) := by
  have hB0 : Below w.heap.size w (w.alloc (.cells #[.int .i64 P, .slice A n c] 26)) := (Below.refl _ _).alloc (Nat.le_refl _) _
  have k0 : Blk (w.alloc (.cells #[.int .i64 P, .slice A n c] 26)) w.heap.size 26 #[.int .i64 P, .slice A n c] := Blk.new _ _ _
  obtain ⟨hp3, hp2⟩ := isP_ge HP
  obtain ⟨Q, hQ⟩ : ∃ b, b = decide (detL P (onePl P M 1) ≠ 0) := ⟨_, rfl⟩
  obtain ⟨RR, hRR⟩ : ∃ R, R = if detL P (onePl P M 1) ≠ 0 then cayL P M else [] := ⟨_, rfl⟩
  rw [← hQ, ← hRR]
  have HQ := Lib.hid hQ
  have HRR := Lib.hid hRR
  have hl := hd.len
  have HT1 := Lib.hid (onePl_tab (show 0 < P by omega) hT hl 1)
  have HT2 := Lib.hid (onePl_tab (show 0 < P by omega) hT hl (-1))
  have HIT := Lib.hid (inv_tab HP HT1.out ((onePl_len P M 1).trans hl))
  have HS := Lib.hid fun (w' : World) (U : Option Addr) (cu : Nat) (k : Int) (h : Below w.heap.size w w') (hu : RdII w' U n (unitM n)) (h1 : -1000 ≤ k) (h2 : k ≤ 1000) => sum_any P U n cu D d M k w' (by omega) hp2 (by omega) hu (hd.below h) hT h1 h2
  have HI := Lib.hid fun (w' : World) (B : Option Addr) (b : Nat) (hb : RdII w' B n (onePl P M 1)) => inverse_any P B n b (onePl P M 1) w' HP hn0 (by omega) hb HT1.out
  have HX := Lib.hid fun (w' : World) (B : Option Addr) (b : Nat) (E : Option Addr) (f : Nat) (hb : RdII w' B n (invL P (onePl P M 1))) (he : RdII w' E n (onePl P M (-1))) => timesM_any P B n b (invL P (onePl P M 1)) E f (onePl P M (-1)) w' (by omega) hp2 hn0 (by omega) hb HIT.out he HT2.out
  have HILN := Lib.hid (inv_len HP HT1.out ((onePl_len P M 1).trans hl))
  obtain ⟨ZZ, hZZ⟩ : ∃ Z, Z = detL P (onePl P M 1) := ⟨_, rfl⟩
  rw [← hZZ] at hQ hRR HQ HRR
  have HII : Hid (∀ (w' : World) (B : Option Addr) (b : Nat), RdII w' B n (onePl P M 1) → Calls Tryz.prog 322 #[.int .i64 P, .slice B n b] w' fun e w'' => ∃ (A' : Option Addr) (k c' : Nat), e = .returned (.tuple #[.slice A' k c', .bool Q]) ∧ MkII w' w'' A' k c' (if ZZ ≠ 0 then invL P (onePl P M 1) else [])) := Lib.hid (by rw [hQ, hZZ]; exact HI.out)
  clear hd hT hl HP hQ hRR HI hZZ
  obtain ⟨q0, q1⟩ := k0.two
  go_enter Tryz.func140, Tryz.ntmps140
  go_wp2
  refine wp_obs 7 [[], [0], [0, 1], [], [3], [0, 1, 2], [3, 4]] [VIs (.agg #[.int .i64 P, .slice A n c]), VIs (.int .i64 (n)), VMat w n (unitM n), VIs (.agg #[.int .i64 P, .slice A n c]), VIs (.int .i64 (P)), VMat w n (unitM n), VIs (.int .i64 (P))] (fun w' => Blk w' w.heap.size 26 #[.int .i64 P, .slice A n c] ∧ Below w.heap.size w w') (by kernel_rfl) (by kernel_rfl) (fun _ _ h hb => ⟨h.1.below hb h.1.lt, h.2.trans (hb.mono h.2.size)⟩) (⟨k0.drew, hB0.drew⟩) (fun x => ?_)
  refine obs_step (Eq.trans (by simp only [zA, zC]; exact rfl) rfl) rfl (fun w' hS hV K hK => ?_) ?_
  · obtain ⟨q0, q1⟩ := hS.1.two
    go_simp
    exact hK.out _ _ _ rfl rfl rfl (Below.refl _ _)
  simp only [zD, zE, zF]
  refine obs_step (Eq.trans (by simp only [zA, zB, zC]; exact rfl) rfl) rfl (fun w' hS hV K hK => ?_) ?_
  · have e0 : x 0 = (.agg #[.int .i64 P, .slice A n c]) := hV 0 (by decide)
    obtain ⟨q0, q1⟩ := hS.1.two
    go_simp
    refine (dim_any _ _ _ _ _).mono ?_
    rintro e v1 ⟨rfl, hb⟩
    exact hK.out _ _ _ rfl rfl rfl hb
  simp only [zD, zE, zF]
  refine obs_step (Eq.trans (by simp only [zA, zB, zC]; exact rfl) rfl) rfl (fun w' hS hV K hK => ?_) ?_
  · have e1 : x 1 = (.int .i64 (n)) := hV 1 (by decide)
    obtain ⟨q0, q1⟩ := hS.1.two
    go_simp
    refine (unit_any n _ (by omega)).mono ?_
    rintro e v1 ⟨A9, c9, rfl, hM⟩
    exact hK.out _ _ _ rfl rfl ⟨_, _, rfl, hM.after hS.2⟩ hM.b
  simp only [zD, zE, zF]
  refine obs_step (Eq.trans (by simp only [zA, zB, zC]; exact rfl) rfl) rfl (fun w' hS hV K hK => ?_) ?_
  · obtain ⟨q0, q1⟩ := hS.1.two
    go_simp
    exact hK.out _ _ _ rfl rfl rfl (Below.refl _ _)
  simp only [zD, zE, zF]
  refine obs_step (Eq.trans (by simp only [zA, zB, zC]; exact rfl) rfl) rfl (fun w' hS hV K hK => ?_) ?_
  · have e3 : x 3 = (.agg #[.int .i64 P, .slice A n c]) := hV 3 (by decide)
    obtain ⟨q0, q1⟩ := hS.1.two
    go_simp
    refine (field_any _ _ _ _ _).mono ?_
    rintro e v1 ⟨rfl, hb⟩
    exact hK.out _ _ _ rfl rfl rfl hb
  simp only [zD, zE, zF]
  refine obs_step (Eq.trans (by simp only [zA, zB, zC]; exact rfl) rfl) rfl (fun w' hS hV K hK => ?_) ?_
  · obtain ⟨A2, c2, e2, h2⟩ := hV 2 (by decide)
    obtain ⟨q0, q1⟩ := hS.1.two
    go_simp
    exact hK.out _ _ _ rfl rfl ⟨_, _, rfl, h2⟩ (Below.refl _ _)
  simp only [zD, zE, zF]
  refine obs_step (Eq.trans (by simp only [zA, zB, zC]; exact rfl) rfl) rfl (fun w' hS hV K hK => ?_) ?_
  · have e4 : x 4 = (.int .i64 (P)) := hV 4 (by decide)
    obtain ⟨q0, q1⟩ := hS.1.two
    go_simp
    exact hK.out _ _ _ rfl rfl rfl (Below.refl _ _)
  simp only [zD, zE, zF]
  refine fun w' hS hV => ?_
  have e0 : x 0 = (.agg #[.int .i64 P, .slice A n c]) := hV 0 (by decide)
  have e1 : x 1 = (.int .i64 (n)) := hV 1 (by decide)
  obtain ⟨A2, c2, e2, h2⟩ := hV 2 (by decide)
  have e3 : x 3 = (.agg #[.int .i64 P, .slice A n c]) := hV 3 (by decide)
  have e4 : x 4 = (.int .i64 (P)) := hV 4 (by decide)
  obtain ⟨A5, c5, e5, h5⟩ := hV 5 (by decide)
  have e6 : x 6 = (.int .i64 (P)) := hV 6 (by decide)
  simp only [e0, e1, e2, e3, e4, e5, e6]
  clear e0 e1 e2 e3 e4 e5 e6
  refine wpAny_done (by kernel_rfl) ?_ _
  have k2 := hS.1
  have hB2 := hS.2
  have u2 := h5.rd
  clear hS q0 q1 k0 hB0 h2 h5
  go_wp2_with fail
  refine (HS.out _ _ _ 1 hB2 u2 (by omega) (by omega)).mono ?_
  rintro e w3 ⟨A3, c3, rfl, hM3⟩
  have hB3 := hB2.trans (hM3.b.mono hB2.size)
  have u3 := u2.below hM3.b
  have r3 := hM3.rd
  clear hM3 u2
  go_wp2_with fail
  refine (HII.out _ _ _ r3).mono ?_
  rintro e w4 ⟨A4, k4, c4, rfl, hM4⟩
  have hB4 := hB3.trans (hM4.b.mono hB3.size)
  have u4 := u3.below hM4.b
  clear u3 r3
  by_cases hz : ZZ ≠ 0
  · obtain rfl : Q = true := by rw [HQ.out, decide_eq_true hz]
    rw [if_pos hz] at hM4
    obtain rfl : RR = cayL P M := by rw [HRR.out, if_pos hz]
    have r4 := hM4.rd
    obtain rfl : n = k4 := by rw [← r4.len]; exact HILN.out.symm
    clear hM4 hz
    go_wp2_with fail
    refine (HS.out _ _ _ (-1) hB4 u4 (by omega) (by omega)).mono ?_
    rintro e w5 ⟨A5, c5, rfl, hM5⟩
    have hB5 := hB4.trans (hM5.b.mono hB4.size)
    have r5 := r4.below hM5.b
    have s5 := hM5.rd
    clear hM5 r4 u4
    go_wp2_with fail
    refine (HX.out _ _ _ _ _ r5 s5).mono ?_
    rintro e w6 ⟨A6, c6, rfl, hM6⟩
    go_wp2
    go_ret2
    exact ⟨_, _, _, rfl, hM6.after hB5⟩
  · obtain rfl : Q = false := by rw [HQ.out, decide_eq_false hz]
    obtain rfl : RR = [] := by rw [HRR.out, if_neg hz]
    clear hz hM4 u4
    go_wp2
    go_ret2
    exact ⟨_, _, _, rfl, MkII.nil hB4⟩
set_option maxHeartbeats 6400000 in
set_option maxRecDepth 8000 in
theorem l10Cayley_any (P : Int) (A : Option Addr) (n c : Nat) (M : List (List Int)) (w : World) (HP : isP P = true) (hn0 : 0 < n) (hn : n ≤ 6) (hd : RdII w A n M) (hT : Tab P n M) :
    Calls Tryz.prog 144 #[.int .i64 P, .slice A n c] w fun e w' => ∃ (A' : Option Addr) (k c' : Nat), e = .returned (.tuple #[.slice A' k c', .bool (decide (detL P (onePl P M 1) ≠ 0))]) ∧ MkII w w' A' k c' (if detL P (onePl P M 1) ≠ 0 then cayL P M else []) := by
  obtain ⟨hp3, hp2⟩ := isP_ge HP
  obtain ⟨Q, hQ⟩ : ∃ b, b = decide (detL P (onePl P M 1) ≠ 0) := ⟨_, rfl⟩
  obtain ⟨RR, hRR⟩ : ∃ R, R = if detL P (onePl P M 1) ≠ 0 then cayL P M else [] := ⟨_, rfl⟩
  rw [← hQ, ← hRR]
  have HQ := Lib.hid hQ
  have HRR := Lib.hid hRR
  have hl := hd.len
  have HT1 := Lib.hid (onePl_tab (show 0 < P by omega) hT hl 1)
  have HT2 := Lib.hid (onePl_tab (show 0 < P by omega) hT hl (-1))
  have HIT := Lib.hid (inv_tab HP HT1.out ((onePl_len P M 1).trans hl))
  have HM := Lib.hid hT
  have HL := Lib.hid hl
  have HOL : Hid ((onePl P M 1).length = n ∧ (onePl P M (-1)).length = n) := Lib.hid ⟨(onePl_len P M 1).trans hl, (onePl_len P M (-1)).trans hl⟩
  have HPM : Hid (onePl P M (P - 1) = onePl P M (-1)) := Lib.hid (onePl_cg M (by rw [show P - 1 = -1 + P by omega, Int.add_emod_right]))
  have HDE := Lib.hid fun (w' : World) (B : Option Addr) (b : Nat) (hb : RdII w' B n (onePl P M 1)) => l02Det_any P B n b (onePl P M 1) w' HP hn0 (by omega) hb HT1.out
  have HI := Lib.hid fun (w' : World) (B : Option Addr) (b : Nat) (hb : RdII w' B n (onePl P M 1)) => l02Inverse_any P B n b (onePl P M 1) w' HP hn0 (by omega) hb HT1.out
  have HX := Lib.hid fun (w' : World) (B : Option Addr) (b : Nat) (E : Option Addr) (f : Nat) (hb : RdII w' B n (invL P (onePl P M 1))) (he : RdII w' E n (onePl P M (-1))) => l02Times_any P B n b (invL P (onePl P M 1)) E f (onePl P M (-1)) w' (by omega) hp2 hn0 (by omega) hb HIT.out he HT2.out
  obtain ⟨ZZ, hZZ⟩ : ∃ Z, Z = detL P (onePl P M 1) := ⟨_, rfl⟩
  rw [← hZZ] at HDE HQ HRR
  obtain ⟨p, hpP⟩ : ∃ q, q = P := ⟨_, rfl⟩
  subst hpP
  obtain ⟨W0, hW0⟩ : ∃ W, W = (w.alloc (.cells #[] 24)).alloc (.cells #[] 24) := ⟨_, rfl⟩
  have hA0 : Below w.heap.size w W0 := by rw [hW0]; exact ((Below.refl _ _).alloc (Nat.le_refl _) _).alloc (by simp) _
  have hO0 : MkII w W0 (some ⟨w.heap.size, 0, none⟩) 0 0 [] := by rw [hW0]; exact (MkII.empty (Below.refl _ _)).below ((Below.refl _ _).alloc (Nat.le_refl _) _)
  have hE0 : Blk W0 w.heap.size 24 #[] := by rw [hW0]; exact (Blk.new _ _ _).alloc _
  have hE1 : Blk W0 (w.heap.size + 1) 24 #[] := by rw [hW0]; exact Blk.newAt3 (by simp)
  have hO1 : MkII w W0 (some ⟨w.heap.size + 1, 0, none⟩) 0 0 [] := ⟨[], ⟨hA0, Own.of_cells (cs := #[]) (Nat.le_succ _) hE1 (by simp [maxLen])⟩, Nest.nil _ _⟩
  have hun := l02Unit_any n W0 (by omega)
  have HD := Lib.hid hd
  clear hQ hRR hd hT hl HP hZZ
  go_enter Tryz.func144, Tryz.ntmps144
  go_wp2_with fail
  rw [← hW0]
  refine hun.mono ?_
  rintro e w3 ⟨Au, cu, rfl, hU⟩
  clear hun hW0
  have hB3 := hA0.trans (hU.b.mono hA0.size)
  have hO3 := hO0.below hU.b
  have hP3 := hO1.below hU.b
  have hE3 := hE0.below hU.b hE0.lt
  have hF3 := hE1.below hU.b hE1.lt
  have a3 := HD.out.below hB3
  have u3 := hU.rd
  have hgr0 : Grows w3 w3 w.heap.size (.slice (some ⟨w.heap.size, 0, none⟩) 0 0) := ⟨CK.refl _, Nat.le_refl _, fun gb h => .inl (by simpa [Value.ownBlock] using h.symm)⟩
  have hgr1 : Grows w3 w3 (w.heap.size + 1) (.slice (some ⟨w.heap.size + 1, 0, none⟩) 0 0) := ⟨CK.refl _, Nat.le_refl _, fun gb h => .inl (by simpa [Value.ownBlock] using h.symm)⟩
  have hne0 : ∀ g, (Value.slice (some ⟨w.heap.size, 0, none⟩) 0 0).ownBlock = some g → (Value.slice (some ⟨w.heap.size + 1, 0, none⟩) 0 0).ownBlock ≠ some g := fun g h1 h2 => by
    simp only [Value.ownBlock, Option.some.injEq] at h1 h2; omega
  obtain ⟨g3, hg3⟩ : ∃ g, g = w.heap.size := ⟨_, rfl⟩
  obtain ⟨g4, hg4⟩ : ∃ g, g = w.heap.size + 1 := ⟨_, rfl⟩
  rw [← hg4] at hP3 hF3 hgr1 hne0 ⊢
  rw [← hg3] at hO3 hE3 hgr0 hne0 ⊢
  clear hg3 hg4 hU hA0 hO0 hE0 hO1 hE1
  go_wp2
  go_loopw [6, 7, 9] (fun po mo i wr => ∃ (k : Nat) (Ap : Option Addr) (cp : Nat) (Am : Option Addr) (cm : Nat), k ≤ n ∧ i = .int .i64 k ∧ po = .slice Ap k cp ∧ mo = .slice Am k cm ∧ MkII w wr Ap k cp ((onePl p M 1).take k) ∧ MkII w wr Am k cm ((onePl p M (-1)).take k) ∧ Grows w3 wr g3 (.slice Ap k cp) ∧ Grows w3 wr g4 (.slice Am k cm) ∧ (∀ g, (Value.slice Ap k cp).ownBlock = some g → (Value.slice Am k cm).ownBlock ≠ some g)) (fun _ _ i _ => n - (intOf i).toNat)
  case atStart => exact ⟨0, _, _, _, _, by omega, rfl, rfl, rfl, by simpa using hO3, by simpa using hP3, hgr0, hgr1, hne0⟩
  case round =>
    obtain ⟨k, Ap, cp, Am, cm, hk, rfl, rfl, rfl, hM, hN, hgr, hgs, hne⟩ := hrel
    clear hO3 hP3 hgr0 hgr1 hne0
    by_cases hlt : k < n
    · obtain ⟨ga, oa, rfl, hxk, Ak, ck, hck, hrk, hcc⟩ := (a3.ck hgr.1).at_ hlt
      obtain ⟨gu, ou, rfl, hxu, Uk, cu2, hcu, hru, hcuc⟩ := (u3.ck hgr.1).at_ hlt
      have hlk : M[k].length = n := (HM.out M[k] (List.getElem_mem hxk)).1
      have hnk : NumsL p M[k] := (HM.out M[k] (List.getElem_mem hxk)).2
      have hlu : (unitM n)[k] = unitRow n k := unitM_get n k hxu
      rw [hlk] at hck hrk hcc
      rw [hlu, unitRow_len] at hcu hcuc
      have hru2 : Rd wr Uk n (ints (unitRow n k)) := by have h := hru; simp only [hlu, unitRow_len] at h; exact h
      have HGD : Hid (M.getD k [] = M[k]) := Lib.hid (getD_of_lt [] hxk)
      obtain ⟨X, hX⟩ : ∃ X, X = M[k] := ⟨_, rfl⟩
      rw [← hX] at hrk hlk hnk HGD
      have HXL : Hid (k < M.length) := Lib.hid hxk
      clear hX hxk hru hlu hxu hcc hcuc
      have HPL := Lib.hid fun (w' : World) (h : Below wr.heap.size wr w') => l02Plus_any p Uk n cu2 Ak n ck 1 (unitRow n k) X w' (by omega) hp2 (by omega) (Nat.le_refl _) (hru2.below h) (unitRow_nums (by omega) n k) (hrk.below h) hnk (by omega) (by omega)
      have HPL9 := Lib.hid fun (Uk : Option Addr) (cu2 : Nat) (Ak : Option Addr) (ck : Nat) (w' : World) (hu : Rd w' Uk n (ints (unitRow n k))) (hr : Rd w' Ak n (ints X)) => l02Plus_any p Uk n cu2 Ak n ck (p - 1) (unitRow n k) X w' (by omega) hp2 (by omega) (Nat.le_refl _) hu (unitRow_nums (by omega) n k) hr hnk (by omega) (by omega)
      obtain ⟨Y, hY⟩ : ∃ Y, Y = plusL p (unitRow n k) X 1 := ⟨_, rfl⟩
      obtain ⟨Y2, hY2⟩ : ∃ Y, Y = plusL p (unitRow n k) X (p - 1) := ⟨_, rfl⟩
      have HAP : Hid ((onePl p M 1).take (k + 1) = (onePl p M 1).take k ++ [Y]) := Lib.hid (by rw [onePl_take HXL.out, HL.out, HGD.out, hY])
      have HAP2 : Hid ((onePl p M (-1)).take (k + 1) = (onePl p M (-1)).take k ++ [Y2]) := Lib.hid (by rw [← HPM.out, onePl_take HXL.out, HL.out, HGD.out, hY2])
      rw [← hY] at HPL
      rw [← hY2] at HPL9
      have HMM := Lib.hid hM
      have HNN := Lib.hid hN
      have HGR := Lib.hid hgr
      have HGS := Lib.hid hgs
      have HNE := Lib.hid hne
      have HRK := Lib.hid hrk
      have HRU := Lib.hid hru2
      have HCU := Lib.hid hcu
      have HCK := Lib.hid hck
      clear hrk hru2 hlk hY hY2 hM hN hgr hgs hne hnk
      go_wp2
      refine wp_obs 12 [[], [], [], [], [2, 3], [2, 3, 4], [], [], [6, 7], [6, 7, 8], [1, 2, 3, 4, 5, 6, 7, 8, 9], [1, 2, 3, 4, 5, 6, 7, 8, 9, 10], [0, 1, 2, 3, 4, 5, 6, 7, 8, 9, 10, 11], [0, 1, 2, 3, 4, 5, 6, 7, 8, 9, 10, 11, 12]] [VIs (.slice Ap k cp), VIs (.int .i64 (p)), VIs (.slice (some ⟨gu, ou, none⟩) n cu), VIs (.int .i64 (k)), VIs (.pointer (some ⟨gu, ou + k, none⟩)), VIs (.slice Uk n cu2), VIs (.slice (some ⟨ga, oa, none⟩) n c), VIs (.int .i64 (k)), VIs (.pointer (some ⟨ga, oa + k, none⟩)), VIs (.slice Ak n ck), VSl wr n Y, VNew wr n Y] (fun w' => w'.cell? ⟨gu, ou + k, none⟩ = some (.slice Uk n cu2) ∧ w'.cell? ⟨ga, oa + k, none⟩ = some (.slice Ak n ck) ∧ Below wr.heap.size wr w') (by kernel_rfl) (by kernel_rfl) (fun _ _ h hb => ⟨(hb.cell (World.block_lt_of_cell? _ _ h.1)).trans h.1, (hb.cell (World.block_lt_of_cell? _ _ h.2.1)).trans h.2.1, h.2.2.trans (hb.mono h.2.2.size)⟩) (⟨hcu, hck, (Below.refl _ _).drew⟩) (fun x => ?_)
      refine obs_step (Eq.trans (by simp only [zA, zC]; exact rfl) rfl) rfl (fun w' hS hV K hK => ?_) ?_
      · have q0 := hS.1; have q1 := hS.2.1
        go_simp
        exact hK.out _ _ _ rfl rfl rfl (Below.refl _ _)
      simp only [zD, zE, zF]
      refine obs_step (Eq.trans (by simp only [zA, zB, zC]; exact rfl) rfl) rfl (fun w' hS hV K hK => ?_) ?_
      · have q0 := hS.1; have q1 := hS.2.1
        go_simp
        exact hK.out _ _ _ rfl rfl rfl (Below.refl _ _)
      simp only [zD, zE, zF]
      refine obs_step (Eq.trans (by simp only [zA, zB, zC]; exact rfl) rfl) rfl (fun w' hS hV K hK => ?_) ?_
      · have q0 := hS.1; have q1 := hS.2.1
        go_simp
        exact hK.out _ _ _ rfl rfl rfl (Below.refl _ _)
      simp only [zD, zE, zF]
      refine obs_step (Eq.trans (by simp only [zA, zB, zC]; exact rfl) rfl) rfl (fun w' hS hV K hK => ?_) ?_
      · have q0 := hS.1; have q1 := hS.2.1
        go_simp
        exact hK.out _ _ _ rfl rfl rfl (Below.refl _ _)
      simp only [zD, zE, zF]
      refine obs_step (Eq.trans (by simp only [zA, zB, zC]; exact rfl) rfl) rfl (fun w' hS hV K hK => ?_) ?_
      · have e2 : x 2 = (.slice (some ⟨gu, ou, none⟩) n cu) := hV 2 (by decide)
        have e3 : x 3 = (.int .i64 (k)) := hV 3 (by decide)
        have q0 := hS.1; have q1 := hS.2.1
        go_simp
        exact hK.out _ _ _ rfl rfl rfl (Below.refl _ _)
      simp only [zD, zE, zF]
      refine obs_step (Eq.trans (by simp only [zA, zB, zC]; exact rfl) rfl) rfl (fun w' hS hV K hK => ?_) ?_
      · have e4 : x 4 = (.pointer (some ⟨gu, ou + k, none⟩)) := hV 4 (by decide)
        have q0 := hS.1; have q1 := hS.2.1
        go_simp
        exact hK.out _ _ _ rfl rfl rfl (Below.refl _ _)
      simp only [zD, zE, zF]
      refine obs_step (Eq.trans (by simp only [zA, zB, zC]; exact rfl) rfl) rfl (fun w' hS hV K hK => ?_) ?_
      · have q0 := hS.1; have q1 := hS.2.1
        go_simp
        exact hK.out _ _ _ rfl rfl rfl (Below.refl _ _)
      simp only [zD, zE, zF]
      refine obs_step (Eq.trans (by simp only [zA, zB, zC]; exact rfl) rfl) rfl (fun w' hS hV K hK => ?_) ?_
      · have q0 := hS.1; have q1 := hS.2.1
        go_simp
        exact hK.out _ _ _ rfl rfl rfl (Below.refl _ _)
      simp only [zD, zE, zF]
      refine obs_step (Eq.trans (by simp only [zA, zB, zC]; exact rfl) rfl) rfl (fun w' hS hV K hK => ?_) ?_
      · have e6 : x 6 = (.slice (some ⟨ga, oa, none⟩) n c) := hV 6 (by decide)
        have e7 : x 7 = (.int .i64 (k)) := hV 7 (by decide)
        have q0 := hS.1; have q1 := hS.2.1
        go_simp
        exact hK.out _ _ _ rfl rfl rfl (Below.refl _ _)
      simp only [zD, zE, zF]
      refine obs_step (Eq.trans (by simp only [zA, zB, zC]; exact rfl) rfl) rfl (fun w' hS hV K hK => ?_) ?_
      · have e8 : x 8 = (.pointer (some ⟨ga, oa + k, none⟩)) := hV 8 (by decide)
        have q0 := hS.1; have q1 := hS.2.1
        go_simp
        exact hK.out _ _ _ rfl rfl rfl (Below.refl _ _)
      simp only [zD, zE, zF]
      refine obs_step (Eq.trans (by simp only [zA, zB, zC]; exact rfl) rfl) rfl (fun w' hS hV K hK => ?_) ?_
      · have e1 : x 1 = (.int .i64 (p)) := hV 1 (by decide)
        have e5 : x 5 = (.slice Uk n cu2) := hV 5 (by decide)
        have e9 : x 9 = (.slice Ak n ck) := hV 9 (by decide)
        have q0 := hS.1; have q1 := hS.2.1
        go_simp
        refine (HPL.out _ hS.2.2).mono ?_
        rintro e v1 ⟨A9, c9, rfl, hM⟩
        exact hK.out _ _ _ rfl rfl ⟨_, _, rfl, hM.after hS.2.2⟩ hM.b
      simp only [zD, zE, zF]
      refine obs_step (Eq.trans (by simp only [zA, zB, zC]; exact rfl) rfl) rfl (fun w' hS hV K hK => ?_) ?_
      · obtain ⟨A10, c10, e10, h10⟩ := hV 10 (by decide)
        have q0 := hS.1; have q1 := hS.2.1
        go_simp
        exact hK.out _ _ _ rfl rfl ⟨_, _, _, rfl, Blk.new _ _ _, h10.below ((Below.refl _ _).alloc (Nat.le_refl _) _)⟩ ((Below.refl _ _).alloc (Nat.le_refl _) _)
      simp only [zD, zE, zF]
      refine fun w' hS hV => ?_
      have e0 : x 0 = (.slice Ap k cp) := hV 0 (by decide)
      have e1 : x 1 = (.int .i64 (p)) := hV 1 (by decide)
      have e2 : x 2 = (.slice (some ⟨gu, ou, none⟩) n cu) := hV 2 (by decide)
      have e3 : x 3 = (.int .i64 (k)) := hV 3 (by decide)
      have e4 : x 4 = (.pointer (some ⟨gu, ou + k, none⟩)) := hV 4 (by decide)
      have e5 : x 5 = (.slice Uk n cu2) := hV 5 (by decide)
      have e6 : x 6 = (.slice (some ⟨ga, oa, none⟩) n c) := hV 6 (by decide)
      have e7 : x 7 = (.int .i64 (k)) := hV 7 (by decide)
      have e8 : x 8 = (.pointer (some ⟨ga, oa + k, none⟩)) := hV 8 (by decide)
      have e9 : x 9 = (.slice Ak n ck) := hV 9 (by decide)
      obtain ⟨A10, c10, e10, h10⟩ := hV 10 (by decide)
      obtain ⟨g11, A11, c11, e11, b11, h11⟩ := hV 11 (by decide)
      simp only [e0, e1, e2, e3, e4, e5, e6, e7, e8, e9, e10, e11]
      clear e0 e1 e2 e3 e4 e5 e6 e7 e8 e9 e10 e11
      obtain ⟨z0, z1, s2⟩ := hS
      refine any_plain (j := 12) (by kernel_rfl) (Eq.trans (by simp only [zA, zB, zC]; exact rfl) rfl) rfl (fun K hK => ?_)
      refine wp_appRow w wr w' _ _ rfl Ap k cp _ A11 n c11 _ HMM.out h11 (by omega) g11 b11 (by rfl) (by rfl) ?_
      intro A20 c20 w20 hM20 hg20 hat20
      refine hK.out _ _ ?_
      simp only [Act.put, zD, zE, zF]
      refine any_one (j := 13) (by kernel_rfl) (Eq.trans (by simp only [zA, zB, zC]; exact rfl) rfl) (fun K hK => ?_)
      go_simp
      refine hK.out _ _ (wpAny_done (by kernel_rfl) ?_ _)
      have hgr7 := HGR.out.step (n' := k + 1) (c' := c20) hE3 s2 hg20 hat20
      have hgs7 := HGS.out.other hgr7
      have hNm : MkII w w20 Am k cm ((onePl p M (-1)).take k) := (HNN.out.below s2).beside (HMM.out.below s2) hg20 hM20.b HNE.out
      have hne7 := beside_next (n' := k + 1) (c' := c20) HNE.out (fun g h => (HNN.out.below s2).blk_lt h) hat20
      obtain ⟨gu9, ou9, e9, hxu9, Uk2, cv2, hcu2, hru9, -⟩ := (u3.ck hgr7.1).at_ hlt
      cases e9
      obtain ⟨ga9, oa9, e9, hxk9, Ak2, ck2, hck2, hrk9, -⟩ := (a3.ck hgr7.1).at_ hlt
      cases e9
      have hlk9 : M[k].length = n := (HM.out M[k] (List.getElem_mem hxk9)).1
      have hlu9 : (unitM n)[k] = unitRow n k := unitM_get n k hxu9
      rw [hlk9] at hck2 hrk9
      rw [hlu9, unitRow_len] at hcu2
      have hru3 : Rd w20 Uk2 n (ints (unitRow n k)) := by have h := hru9; simp only [hlu9, unitRow_len] at h; exact h
      have hX9 : M[k] = X := (getD_of_lt [] hxk9).symm.trans HGD.out
      rw [hX9] at hrk9
      have HPL2 := Lib.hid fun (w' : World) (h : Below w20.heap.size w20 w') => HPL9.out Uk2 cv2 Ak2 ck2 w' (hru3.below h) (hrk9.below h)
      have HM20 := Lib.hid hM20
      have HN20 := Lib.hid hNm
      have HGR7 := Lib.hid hgr7
      have HGS7 := Lib.hid hgs7
      have HNE7 := Lib.hid hne7
      have W1 : IntKind.i64.wrap (p - 1) = p - 1 := i64_fit _ (by omega) (by omega)
      clear hg20 hat20 s2 hM20 hNm hgr7 hgs7 hne7 hru9 hru3 hrk9 hlu9 hlk9 hX9 hxk9 hxu9 z0 z1 h11 b11 HPL HPL9 hcu hck
      go_wp2
      refine wp_obs 14 [[], [], [], [], [2, 3], [2, 3, 4], [], [], [6, 7], [6, 7, 8], [], [10], [1, 2, 3, 4, 5, 6, 7, 8, 9, 10, 11], [1, 2, 3, 4, 5, 6, 7, 8, 9, 10, 11, 12], [0, 1, 2, 3, 4, 5, 6, 7, 8, 9, 10, 11, 12, 13], [0, 1, 2, 3, 4, 5, 6, 7, 8, 9, 10, 11, 12, 13, 14]] [VIs (.slice Am k cm), VIs (.int .i64 (p)), VIs (.slice (some ⟨gu, ou, none⟩) n cu), VIs (.int .i64 (k)), VIs (.pointer (some ⟨gu, ou + k, none⟩)), VIs (.slice Uk2 n cv2), VIs (.slice (some ⟨ga, oa, none⟩) n c), VIs (.int .i64 (k)), VIs (.pointer (some ⟨ga, oa + k, none⟩)), VIs (.slice Ak2 n ck2), VIs (.int .i64 (p)), VIs (.int .i64 (p - 1)), VSl w20 n Y2, VNew w20 n Y2] (fun w' => w'.cell? ⟨gu, ou + k, none⟩ = some (.slice Uk2 n cv2) ∧ w'.cell? ⟨ga, oa + k, none⟩ = some (.slice Ak2 n ck2) ∧ Below w20.heap.size w20 w') (by kernel_rfl) (by kernel_rfl) (fun _ _ h hb => ⟨(hb.cell (World.block_lt_of_cell? _ _ h.1)).trans h.1, (hb.cell (World.block_lt_of_cell? _ _ h.2.1)).trans h.2.1, h.2.2.trans (hb.mono h.2.2.size)⟩) (⟨hcu2, hck2, (Below.refl _ _).drew⟩) (fun x => ?_)
      refine obs_step (Eq.trans (by simp only [zA, zC]; exact rfl) rfl) rfl (fun w' hS hV K hK => ?_) ?_
      · have q0 := hS.1; have q1 := hS.2.1
        go_simp
        exact hK.out _ _ _ rfl rfl rfl (Below.refl _ _)
      simp only [zD, zE, zF]
      refine obs_step (Eq.trans (by simp only [zA, zB, zC]; exact rfl) rfl) rfl (fun w' hS hV K hK => ?_) ?_
      · have q0 := hS.1; have q1 := hS.2.1
        go_simp
        exact hK.out _ _ _ rfl rfl rfl (Below.refl _ _)
      simp only [zD, zE, zF]
      refine obs_step (Eq.trans (by simp only [zA, zB, zC]; exact rfl) rfl) rfl (fun w' hS hV K hK => ?_) ?_
      · have q0 := hS.1; have q1 := hS.2.1
        go_simp
        exact hK.out _ _ _ rfl rfl rfl (Below.refl _ _)
      simp only [zD, zE, zF]
      refine obs_step (Eq.trans (by simp only [zA, zB, zC]; exact rfl) rfl) rfl (fun w' hS hV K hK => ?_) ?_
      · have q0 := hS.1; have q1 := hS.2.1
        go_simp
        exact hK.out _ _ _ rfl rfl rfl (Below.refl _ _)
      simp only [zD, zE, zF]
      refine obs_step (Eq.trans (by simp only [zA, zB, zC]; exact rfl) rfl) rfl (fun w' hS hV K hK => ?_) ?_
      · have e2 : x 2 = (.slice (some ⟨gu, ou, none⟩) n cu) := hV 2 (by decide)
        have e3 : x 3 = (.int .i64 (k)) := hV 3 (by decide)
        have q0 := hS.1; have q1 := hS.2.1
        go_simp
        exact hK.out _ _ _ rfl rfl rfl (Below.refl _ _)
      simp only [zD, zE, zF]
      refine obs_step (Eq.trans (by simp only [zA, zB, zC]; exact rfl) rfl) rfl (fun w' hS hV K hK => ?_) ?_
      · have e4 : x 4 = (.pointer (some ⟨gu, ou + k, none⟩)) := hV 4 (by decide)
        have q0 := hS.1; have q1 := hS.2.1
        go_simp
        exact hK.out _ _ _ rfl rfl rfl (Below.refl _ _)
      simp only [zD, zE, zF]
      refine obs_step (Eq.trans (by simp only [zA, zB, zC]; exact rfl) rfl) rfl (fun w' hS hV K hK => ?_) ?_
      · have q0 := hS.1; have q1 := hS.2.1
        go_simp
        exact hK.out _ _ _ rfl rfl rfl (Below.refl _ _)
      simp only [zD, zE, zF]
      refine obs_step (Eq.trans (by simp only [zA, zB, zC]; exact rfl) rfl) rfl (fun w' hS hV K hK => ?_) ?_
      · have q0 := hS.1; have q1 := hS.2.1
        go_simp
        exact hK.out _ _ _ rfl rfl rfl (Below.refl _ _)
      simp only [zD, zE, zF]
      refine obs_step (Eq.trans (by simp only [zA, zB, zC]; exact rfl) rfl) rfl (fun w' hS hV K hK => ?_) ?_
      · have e6 : x 6 = (.slice (some ⟨ga, oa, none⟩) n c) := hV 6 (by decide)
        have e7 : x 7 = (.int .i64 (k)) := hV 7 (by decide)
        have q0 := hS.1; have q1 := hS.2.1
        go_simp
        exact hK.out _ _ _ rfl rfl rfl (Below.refl _ _)
      simp only [zD, zE, zF]
      refine obs_step (Eq.trans (by simp only [zA, zB, zC]; exact rfl) rfl) rfl (fun w' hS hV K hK => ?_) ?_
      · have e8 : x 8 = (.pointer (some ⟨ga, oa + k, none⟩)) := hV 8 (by decide)
        have q0 := hS.1; have q1 := hS.2.1
        go_simp
        exact hK.out _ _ _ rfl rfl rfl (Below.refl _ _)
      simp only [zD, zE, zF]
      refine obs_step (Eq.trans (by simp only [zA, zB, zC]; exact rfl) rfl) rfl (fun w' hS hV K hK => ?_) ?_
      · have q0 := hS.1; have q1 := hS.2.1
        go_simp
        exact hK.out _ _ _ rfl rfl rfl (Below.refl _ _)
      simp only [zD, zE, zF]
      refine obs_step (Eq.trans (by simp only [zA, zB, zC]; exact rfl) rfl) rfl (fun w' hS hV K hK => ?_) ?_
      · have e10 : x 10 = (.int .i64 (p)) := hV 10 (by decide)
        have q0 := hS.1; have q1 := hS.2.1
        go_simp
        exact hK.out _ _ _ rfl rfl rfl (Below.refl _ _)
      simp only [zD, zE, zF]
      refine obs_step (Eq.trans (by simp only [zA, zB, zC]; exact rfl) rfl) rfl (fun w' hS hV K hK => ?_) ?_
      · have e1 : x 1 = (.int .i64 (p)) := hV 1 (by decide)
        have e5 : x 5 = (.slice Uk2 n cv2) := hV 5 (by decide)
        have e9 : x 9 = (.slice Ak2 n ck2) := hV 9 (by decide)
        have e11 : x 11 = (.int .i64 (p - 1)) := hV 11 (by decide)
        have q0 := hS.1; have q1 := hS.2.1
        go_simp
        refine (HPL2.out _ hS.2.2).mono ?_
        rintro e v1 ⟨A9, c9, rfl, hM⟩
        exact hK.out _ _ _ rfl rfl ⟨_, _, rfl, hM.after hS.2.2⟩ hM.b
      simp only [zD, zE, zF]
      refine obs_step (Eq.trans (by simp only [zA, zB, zC]; exact rfl) rfl) rfl (fun w' hS hV K hK => ?_) ?_
      · obtain ⟨A12, c12, e12, h12⟩ := hV 12 (by decide)
        have q0 := hS.1; have q1 := hS.2.1
        go_simp
        exact hK.out _ _ _ rfl rfl ⟨_, _, _, rfl, Blk.new _ _ _, h12.below ((Below.refl _ _).alloc (Nat.le_refl _) _)⟩ ((Below.refl _ _).alloc (Nat.le_refl _) _)
      simp only [zD, zE, zF]
      refine fun w' hS hV => ?_
      have e0 : x 0 = (.slice Am k cm) := hV 0 (by decide)
      have e1 : x 1 = (.int .i64 (p)) := hV 1 (by decide)
      have e2 : x 2 = (.slice (some ⟨gu, ou, none⟩) n cu) := hV 2 (by decide)
      have e3 : x 3 = (.int .i64 (k)) := hV 3 (by decide)
      have e4 : x 4 = (.pointer (some ⟨gu, ou + k, none⟩)) := hV 4 (by decide)
      have e5 : x 5 = (.slice Uk2 n cv2) := hV 5 (by decide)
      have e6 : x 6 = (.slice (some ⟨ga, oa, none⟩) n c) := hV 6 (by decide)
      have e7 : x 7 = (.int .i64 (k)) := hV 7 (by decide)
      have e8 : x 8 = (.pointer (some ⟨ga, oa + k, none⟩)) := hV 8 (by decide)
      have e9 : x 9 = (.slice Ak2 n ck2) := hV 9 (by decide)
      have e10 : x 10 = (.int .i64 (p)) := hV 10 (by decide)
      have e11 : x 11 = (.int .i64 (p - 1)) := hV 11 (by decide)
      obtain ⟨A12, c12, e12, h12⟩ := hV 12 (by decide)
      obtain ⟨g13, A13, c13, e13, b13, h13⟩ := hV 13 (by decide)
      simp only [e0, e1, e2, e3, e4, e5, e6, e7, e8, e9, e10, e11, e12, e13]
      clear e0 e1 e2 e3 e4 e5 e6 e7 e8 e9 e10 e11 e12 e13
      obtain ⟨-, -, s3⟩ := hS
      refine any_plain (j := 14) (by kernel_rfl) (Eq.trans (by simp only [zA, zB, zC]; exact rfl) rfl) rfl (fun K hK => ?_)
      refine wp_appRow w w20 w' _ _ rfl Am k cm _ A13 n c13 _ HN20.out h13 (by omega) g13 b13 (by rfl) (by rfl) ?_
      intro A30 c30 w30 hM30 hg30 hat30
      refine hK.out _ _ ?_
      simp only [Act.put, zD, zE, zF]
      refine any_one (j := 15) (by kernel_rfl) (Eq.trans (by simp only [zA, zB, zC]; exact rfl) rfl) (fun K hK => ?_)
      go_simp
      refine hK.out _ _ (wpAny_done (by kernel_rfl) ?_ _)
      have hgs8 := HGS7.out.step (n' := k + 1) (c' := c30) hF3 s3 hg30 hat30
      have hgr8 := HGR7.out.other hgs8
      have hP8 : MkII w w30 A20 (k + 1) c20 ((onePl p M 1).take k ++ [Y]) := (HM20.out.below s3).beside (HN20.out.below s3) hg30 hM30.b (fun g e1 e2 => HNE7.out g e2 e1)
      have hne8 := beside_next (n' := k + 1) (c' := c30) (fun g e1 e2 => HNE7.out g e2 e1) (fun g h => (HM20.out.below s3).blk_lt h) hat30
      clear hg30 hat30 s3 h13 b13
      go_wp2
      go_roundw
      case rel => exact ⟨k + 1, A20, c20, A30, c30, by omega, by go_num, rfl, rfl, by rw [HAP.out]; exact hP8, by rw [HAP2.out]; exact hM30, hgr8, hgs8, fun g e1 e2 => hne8 g e2 e1⟩
      case measure => simp [intOf]; omega
    · obtain rfl : k = n := by omega
      rw [List.take_of_length_le (by rw [HOL.out.1]; omega)] at hM
      rw [List.take_of_length_le (by rw [HOL.out.2]; omega)] at hN
      have hB5 := hM.b
      have r5 := hM.rd
      have s5 := hN.rd
      have hcall := HDE.out wr Ap cp r5
      obtain ⟨b, hb⟩ : ∃ b, b = (ZZ == 0) := ⟨_, rfl⟩
      have hb1 : (ZZ == 0) = b := hb.symm
      have HB : Hid ((b = true → ¬ ZZ ≠ 0) ∧ (b = false → ZZ ≠ 0)) := Lib.hid ⟨fun h => by rw [h] at hb; simpa using hb.symm, fun h => by rw [h] at hb; simpa using hb.symm⟩
      clear hM hN hgr hgs hne a3 u3 hE3 hF3 hb HD
      go_wp2_with fail
      refine hcall.mono ?_
      rintro e w6 ⟨rfl, hb6⟩
      have hB6 := hB5.trans (hb6.mono hB5.size)
      have r6 := r5.below hb6
      have s6 := s5.below hb6
      clear hcall r5 s5
      cases b
      · have HZN := HB.out.2 rfl
        obtain rfl : Q = true := by rw [HQ.out, decide_eq_true HZN]
        obtain rfl : RR = cayL p M := by rw [HRR.out, if_pos HZN]
        clear HB HZN
        go_wp2_with fail
        refine (HI.out _ _ _ r6).mono ?_
        rintro e w7 ⟨A7, c7, rfl, hM7⟩
        have hB7 := hB6.trans (hM7.b.mono hB6.size)
        have r7 := hM7.rd
        have s7 := s6.below hM7.b
        clear hM7 r6 s6
        go_wp2_with fail
        refine (HX.out _ _ _ _ _ r7 s7).mono ?_
        rintro e w8 ⟨A8, c8, rfl, hM8⟩
        go_wp2
        go_ret2
        exact ⟨_, _, _, rfl, hM8.after hB7⟩
      · have HZN := HB.out.1 rfl
        obtain rfl : Q = false := by rw [HQ.out, decide_eq_false HZN]
        obtain rfl : RR = [] := by rw [HRR.out, if_neg HZN]
        clear HB HZN
        go_wp2
        go_ret2
        exact ⟨_, _, _, rfl, MkII.nil hB6⟩
end Go.Proofs.YtdbibmilicjllaaGreat
namespace Go.Proofs.YtdbibmilicjllaaGreat
open Go.RowKit
/-- All rows have m numbers. -/
def Rect (m : Nat) (M : List (List Int)) : Prop := ∀ r ∈ M, r.length = m
theorem Rect.tab {p : Int} {m : Nat} {M : List (List Int)} (h : Rect m M) (hn : (M.all fun r => nums p r) = true) : Tab p m M := fun r hr => ⟨h r hr, nums_numsL (List.all_eq_true.1 hn r hr)⟩
theorem Rect.of_tab {p : Int} {m : Nat} {M : List (List Int)} (h : Tab p m M) : Rect m M := fun r hr => (h r hr).1
theorem numsL_nums {p : Int} {xs : List Int} (h : NumsL p xs) : nums p xs = true := List.all_eq_true.2 fun x hx => by have := h x hx; simp [inR]; omega
theorem frB_rect {P : Int} {n m : Nat} {M : List (List Int)} (h : Rect m M) (h0 : 0 < M.length) : frB P n M = ((M.all fun r => nums P r) && (decide (M.length = n) && decide (m = n))) := by
  rw [Bool.eq_iff_iff, frB_iff, Bool.and_eq_true, Bool.and_eq_true, decide_eq_true_iff, decide_eq_true_iff]
  constructor
  · intro ⟨h1, h2⟩
    exact ⟨List.all_eq_true.2 fun r hr => numsL_nums (h2 r hr).2, h1, by rw [← h _ (getD_mem [] h0)]; exact (h2.row h0).1⟩
  · intro ⟨h1, h2, h3⟩
    exact ⟨h2, h3 ▸ h.tab h1⟩
theorem all_takeR {p : Int} {M : List (List Int)} {k : Nat} (hk : k < M.length) (h : ((M.take k).all fun r => nums p r) = true) (h1 : nums p M[k] = true) : ((M.take (k + 1)).all fun r => nums p r) = true := by
  rw [List.take_succ_eq_append_getElem hk, List.all_append, h]; simp [h1]
theorem all_stop {p : Int} {M : List (List Int)} {k : Nat} (hk : k < M.length) (h1 : nums p M[k] = false) : (M.all fun r => nums p r) = false :=
  List.all_eq_false.2 ⟨M[k], List.getElem_mem hk, by simp [h1]⟩
set_option maxHeartbeats 1600000 in
set_option maxRecDepth 8000 in
theorem isTable_any (p : Int) (A : Option Addr) (n c : Nat) (M : List (List Int)) (m : Nat) (w : World) (hp0 : 0 < p) (hp1 : p ≤ 13) (hn : n ≤ 16) (hm1 : 1 ≤ m) (hm : m ≤ 16) (ha : RdII w A n M) (hT : Rect m M) :
    Calls Tryz.prog 252 #[.int .i64 p, .slice A n c] w fun e w' => e = .returned (.bool (M.all fun r => nums p r)) ∧ w = w' := by
  have HT := Lib.hid hT
  have HLN := Lib.hid ha.len
  have t1 : decide ((16 : Int) < (n : Int)) = false := by simp; omega
  have t2 : decide ((m : Int) < 1) = false := by simp; omega
  have t3 : decide ((16 : Int) < (m : Int)) = false := by simp; omega
  have t4 : ((m : Int) != (m : Int)) = false := by simp
  obtain ⟨R, hR⟩ : ∃ b, b = M.all fun r => nums p r := ⟨_, rfl⟩
  rw [← hR]
  have HR := Lib.hid hR
  clear hT hR
  go_enter Tryz.func252, Tryz.ntmps252
  go_wp2
  go_loopw [12] (fun i wr => ∃ k : Nat, k ≤ n ∧ i = .int .i64 k ∧ wr = w ∧ Hid (((M.take k).all fun r => nums p r) = true)) (fun i _ => n - (intOf i).toNat)
  case atStart => exact ⟨0, by omega, rfl, rfl, Lib.hid (by simp)⟩
  case round =>
    obtain ⟨k, hk, rfl, rfl, HK⟩ := hrel
    by_cases hlt : k < n
    · obtain ⟨g, o, rfl, hxk, A1, c1, hc1, hr1, -⟩ := ha.at_ hlt
      obtain ⟨g0, o0, e0, hx0, A0, c0, hc0, hr0, -⟩ := ha.at_ (show 0 < n by omega)
      cases e0
      have l1 := HT.out M[k] (List.getElem_mem hxk)
      have l0 := HT.out M[0] (List.getElem_mem hx0)
      rw [l1] at hc1 hr1
      rw [l0] at hc0
      rw [Nat.add_zero] at hc0
      obtain ⟨b, hb⟩ : ∃ b, b = nums p M[k] := ⟨_, rfl⟩
      have his := is_b p A1 m c1 M[k] wr (by omega) (by omega) (by omega) hr1 hb.symm
      have HB : Hid ((b = true → ((M.take (k + 1)).all fun r => nums p r) = true) ∧ (b = false → (M.all fun r => nums p r) = false)) := Lib.hid ⟨fun h => all_takeR hxk HK.out (by rw [← hb, h]), fun h => all_stop hxk (by rw [← hb, h])⟩
      clear hr1 hr0 l1 l0 ha hb
      go_wp2_with fail
      refine his.mono ?_
      rintro e w1 ⟨rfl, rfl⟩
      cases b
      · obtain rfl : R = false := by rw [HR.out, HB.out.2 rfl]
        clear HB
        go_wp2
        go_ret
        exact ⟨rfl, rfl⟩
      · have HB1 := Lib.hid (HB.out.1 rfl)
        clear HB
        go_wp2
        go_roundw
        case rel => exact ⟨k + 1, by omega, by go_num, by first | rfl | trivial, HB1⟩
        case measure => simp [intOf]; omega
    · obtain rfl : k = n := by omega
      have hr := HK.out
      rw [List.take_of_length_le (by rw [HLN.out]; omega)] at hr
      obtain rfl : R = true := HR.out.trans hr
      clear hr
      go_wp2
      go_ret
      exact ⟨rfl, rfl⟩
set_option maxHeartbeats 800000 in
set_option maxRecDepth 8000 in
theorem isMatrix_any (p : Int) (A : Option Addr) (n c : Nat) (M : List (List Int)) (m : Nat) (w : World) (hp0 : 0 < p) (hp1 : p ≤ 13) (hn0 : 0 < n) (hn : n ≤ 16) (hm1 : 1 ≤ m) (hm : m ≤ 16) (ha : RdII w A n M) (hT : Rect m M) :
    Calls Tryz.prog 328 #[.int .i64 p, .slice A n c] w fun e w' => e = .returned (.bool (M.all fun r => nums p r)) ∧ w = w' := by
  have h := isTable_any p A n c M m w hp0 hp1 hn hm1 hm ha hT
  have t1 : decide ((0 : Int) < (n : Int)) = true := by simp; omega
  obtain ⟨R, hR⟩ : ∃ b, b = M.all fun r => nums p r := ⟨_, rfl⟩
  rw [← hR] at h ⊢
  clear hT hR
  go_enter Tryz.func328, Tryz.ntmps328
  go_wp2_with fail
  refine h.mono ?_
  rintro e w1 ⟨rfl, rfl⟩
  go_wp2
  go_ret
  exact ⟨rfl, rfl⟩
set_option maxHeartbeats 1600000 in
set_option maxRecDepth 8000 in
theorem isFrame_0 (P : Int) (A : Option Addr) (n c : Nat) (sq : List Int) (D : Option Addr) (r d : Nat) (M : List (List Int)) (m : Nat) (w : World) (hp0 : 0 < P) (hp1 : P ≤ 13) (hr0 : 0 < r) (hr : r ≤ 16) (hm1 : 1 ≤ m) (hm : m ≤ 16) (hd : RdII w D r M) (hM : Rect m M) (hb : (M.all fun r => nums P r) = false) :
    Calls Tryz.prog 321 #[.agg #[.int .i64 P, .slice A n c], .slice D r d] w fun e w' => e = .returned (.bool false) ∧ Below w.heap.size w w' := by
  have hB0 : Below w.heap.size w (w.alloc (.cells #[.int .i64 P, .slice A n c] 26)) := (Below.refl _ _).alloc (Nat.le_refl _) _
  have k0 : Blk (w.alloc (.cells #[.int .i64 P, .slice A n c] 26)) w.heap.size 26 #[.int .i64 P, .slice A n c] := Blk.new _ _ _
  have HIM := Lib.hid fun w' (h : Below w.heap.size w w') => isMatrix_any P D r d M m w' hp0 hp1 hr0 hr hm1 hm (hd.below h) hM
  rw [hb] at HIM
  obtain ⟨g, o, rfl, hx0, A0, c0, hc0, -, -⟩ := (hd.below hB0).at_ hr0
  rw [hM M[0] (List.getElem_mem hx0), Nat.add_zero] at hc0
  clear hM hd hb
  obtain ⟨q0, q1⟩ := k0.two
  go_enter Tryz.func321, Tryz.ntmps321
  go_wp2
  refine wp_obs 21 [[], [0], [], [0, 1, 2], [0, 1, 2, 3], [0, 1, 2, 3, 4], [0, 1, 2, 3, 4, 5], [0, 1, 2, 3, 4], [0, 1, 2, 3, 4, 7], [0, 1, 2, 3, 4, 5, 6, 7, 8], [0, 1, 2, 3, 4, 5, 6, 7, 8, 9], [0, 1, 2, 3, 4, 5, 6, 7, 8, 9, 10], [0, 1, 2, 3, 4, 5, 6, 7, 8, 9, 10, 11], [0, 1, 2, 3, 4, 5, 6, 7, 8, 9, 10, 11, 12], [0, 1, 2, 3, 4, 5, 6, 7, 8, 9, 10, 11, 12, 13], [0, 1, 2, 3, 4, 5, 6, 7, 8, 9, 10, 11, 12, 13, 14], [0, 1, 2, 3, 4, 5, 6, 7, 8, 9, 10, 11], [0, 1, 2, 3, 4, 5, 6, 7, 8, 9, 10, 11, 16], [0, 1, 2, 3, 4, 5, 6, 7, 8, 9, 10, 11, 12, 13, 14, 15, 16, 17], [0, 1, 2, 3, 4, 5, 6, 7, 8, 9, 10, 11, 12, 13, 14, 15, 16, 17, 18], [0, 1, 2, 3, 4, 5, 6, 7, 8, 9, 10, 11, 12, 13, 14, 15, 16, 17, 18, 19]] [VIs (.agg #[.int .i64 P, .slice A n c]), VIs (.int .i64 (P)), VIs (.slice (some ⟨g, o, none⟩) r d), VIs (.bool false), VIs (.bool false), VIs undef, VIs undef, VIs undef, VIs undef, VIs undef, VIs (.bool false), VIs (.bool false), VIs undef, VIs undef, VIs undef, VIs undef, VIs undef, VIs undef, VIs undef, VIs (.bool false), VIs (.bool false)] (fun w' => w'.cell? ⟨g, o, none⟩ = some (.slice A0 m c0) ∧ Blk w' w.heap.size 26 #[.int .i64 P, .slice A n c] ∧ Below w.heap.size w w') (by kernel_rfl) (by kernel_rfl) (fun _ _ h hb => ⟨(hb.cell (World.block_lt_of_cell? _ _ h.1)).trans h.1, h.2.1.below hb h.2.1.lt, h.2.2.trans (hb.mono h.2.2.size)⟩) (⟨hc0, k0.drew, hB0.drew⟩) (fun x => ?_)
  refine obs_step (Eq.trans (by simp only [zA, zC]; exact rfl) rfl) rfl (fun w' hS hV K hK => ?_) ?_
  · have q2 := hS.1; obtain ⟨q0, q1⟩ := hS.2.1.two
    go_simp
    exact hK.out _ _ _ rfl rfl rfl (Below.refl _ _)
  simp only [zD, zE, zF]
  refine obs_step (Eq.trans (by simp only [zA, zB, zC]; exact rfl) rfl) rfl (fun w' hS hV K hK => ?_) ?_
  · have e0 : x 0 = (.agg #[.int .i64 P, .slice A n c]) := hV 0 (by decide)
    have q2 := hS.1; obtain ⟨q0, q1⟩ := hS.2.1.two
    go_simp
    refine (field_any _ _ _ _ _).mono ?_
    rintro e v1 ⟨rfl, hb⟩
    exact hK.out _ _ _ rfl rfl rfl hb
  simp only [zD, zE, zF]
  refine obs_step (Eq.trans (by simp only [zA, zB, zC]; exact rfl) rfl) rfl (fun w' hS hV K hK => ?_) ?_
  · have q2 := hS.1; obtain ⟨q0, q1⟩ := hS.2.1.two
    go_simp
    exact hK.out _ _ _ rfl rfl rfl (Below.refl _ _)
  simp only [zD, zE, zF]
  refine obs_step (Eq.trans (by simp only [zA, zB, zC]; exact rfl) rfl) rfl (fun w' hS hV K hK => ?_) ?_
  · have e1 : x 1 = (.int .i64 (P)) := hV 1 (by decide)
    have e2 : x 2 = (.slice (some ⟨g, o, none⟩) r d) := hV 2 (by decide)
    have q2 := hS.1; obtain ⟨q0, q1⟩ := hS.2.1.two
    go_simp
    refine (HIM.out _ hS.2.2).mono ?_
    rintro e v1 ⟨rfl, rfl⟩
    exact hK.out _ _ _ rfl rfl rfl (Below.refl _ _)
  simp only [zD, zE, zF]
  refine obs_step (Eq.trans (by simp only [zA, zB, zC]; exact rfl) rfl) rfl (fun w' hS hV K hK => ?_) ?_
  · have e3 : x 3 = (.bool false) := hV 3 (by decide)
    have q2 := hS.1; obtain ⟨q0, q1⟩ := hS.2.1.two
    go_simp
    exact hK.out _ _ _ rfl rfl rfl (Below.refl _ _)
  simp only [zD, zE, zF]
  refine obs_step (Eq.trans (by simp only [zA, zB, zC]; exact rfl) rfl) rfl (fun w' hS hV K hK => ?_) ?_
  · have e4 : x 4 = (.bool false) := hV 4 (by decide)
    have q2 := hS.1; obtain ⟨q0, q1⟩ := hS.2.1.two
    go_simp
    exact hK.out _ _ _ rfl rfl rfl (Below.refl _ _)
  simp only [zD, zE, zF]
  refine obs_step (Eq.trans (by simp only [zA, zB, zC]; exact rfl) rfl) rfl (fun w' hS hV K hK => ?_) ?_
  · have e4 : x 4 = (.bool false) := hV 4 (by decide)
    have e5 : x 5 = undef := hV 5 (by decide)
    have q2 := hS.1; obtain ⟨q0, q1⟩ := hS.2.1.two
    go_simp
    exact hK.out _ _ _ rfl rfl rfl (Below.refl _ _)
  simp only [zD, zE, zF]
  refine obs_step (Eq.trans (by simp only [zA, zB, zC]; exact rfl) rfl) rfl (fun w' hS hV K hK => ?_) ?_
  · have e4 : x 4 = (.bool false) := hV 4 (by decide)
    have q2 := hS.1; obtain ⟨q0, q1⟩ := hS.2.1.two
    go_simp
    exact hK.out _ _ _ rfl rfl rfl (Below.refl _ _)
  simp only [zD, zE, zF]
  refine obs_step (Eq.trans (by simp only [zA, zB, zC]; exact rfl) rfl) rfl (fun w' hS hV K hK => ?_) ?_
  · have e4 : x 4 = (.bool false) := hV 4 (by decide)
    have e7 : x 7 = undef := hV 7 (by decide)
    have q2 := hS.1; obtain ⟨q0, q1⟩ := hS.2.1.two
    go_simp
    exact hK.out _ _ _ rfl rfl rfl (Below.refl _ _)
  simp only [zD, zE, zF]
  refine obs_step (Eq.trans (by simp only [zA, zB, zC]; exact rfl) rfl) rfl (fun w' hS hV K hK => ?_) ?_
  · have e4 : x 4 = (.bool false) := hV 4 (by decide)
    have e6 : x 6 = undef := hV 6 (by decide)
    have e8 : x 8 = undef := hV 8 (by decide)
    have q2 := hS.1; obtain ⟨q0, q1⟩ := hS.2.1.two
    go_simp
    exact hK.out _ _ _ rfl rfl rfl (Below.refl _ _)
  simp only [zD, zE, zF]
  refine obs_step (Eq.trans (by simp only [zA, zB, zC]; exact rfl) rfl) rfl (fun w' hS hV K hK => ?_) ?_
  · have e4 : x 4 = (.bool false) := hV 4 (by decide)
    have e9 : x 9 = undef := hV 9 (by decide)
    have q2 := hS.1; obtain ⟨q0, q1⟩ := hS.2.1.two
    go_simp
    exact hK.out _ _ _ rfl rfl rfl (Below.refl _ _)
  simp only [zD, zE, zF]
  refine obs_step (Eq.trans (by simp only [zA, zB, zC]; exact rfl) rfl) rfl (fun w' hS hV K hK => ?_) ?_
  · have e10 : x 10 = (.bool false) := hV 10 (by decide)
    have q2 := hS.1; obtain ⟨q0, q1⟩ := hS.2.1.two
    go_simp
    exact hK.out _ _ _ rfl rfl rfl (Below.refl _ _)
  simp only [zD, zE, zF]
  refine obs_step (Eq.trans (by simp only [zA, zB, zC]; exact rfl) rfl) rfl (fun w' hS hV K hK => ?_) ?_
  · have e11 : x 11 = (.bool false) := hV 11 (by decide)
    have q2 := hS.1; obtain ⟨q0, q1⟩ := hS.2.1.two
    go_simp
    exact hK.out _ _ _ rfl rfl rfl (Below.refl _ _)
  simp only [zD, zE, zF]
  refine obs_step (Eq.trans (by simp only [zA, zB, zC]; exact rfl) rfl) rfl (fun w' hS hV K hK => ?_) ?_
  · have e11 : x 11 = (.bool false) := hV 11 (by decide)
    have e12 : x 12 = undef := hV 12 (by decide)
    have q2 := hS.1; obtain ⟨q0, q1⟩ := hS.2.1.two
    go_simp
    exact hK.out _ _ _ rfl rfl rfl (Below.refl _ _)
  simp only [zD, zE, zF]
  refine obs_step (Eq.trans (by simp only [zA, zB, zC]; exact rfl) rfl) rfl (fun w' hS hV K hK => ?_) ?_
  · have e11 : x 11 = (.bool false) := hV 11 (by decide)
    have e13 : x 13 = undef := hV 13 (by decide)
    have q2 := hS.1; obtain ⟨q0, q1⟩ := hS.2.1.two
    go_simp
    exact hK.out _ _ _ rfl rfl rfl (Below.refl _ _)
  simp only [zD, zE, zF]
  refine obs_step (Eq.trans (by simp only [zA, zB, zC]; exact rfl) rfl) rfl (fun w' hS hV K hK => ?_) ?_
  · have e11 : x 11 = (.bool false) := hV 11 (by decide)
    have e14 : x 14 = undef := hV 14 (by decide)
    have q2 := hS.1; obtain ⟨q0, q1⟩ := hS.2.1.two
    go_simp
    exact hK.out _ _ _ rfl rfl rfl (Below.refl _ _)
  simp only [zD, zE, zF]
  refine obs_step (Eq.trans (by simp only [zA, zB, zC]; exact rfl) rfl) rfl (fun w' hS hV K hK => ?_) ?_
  · have e11 : x 11 = (.bool false) := hV 11 (by decide)
    have q2 := hS.1; obtain ⟨q0, q1⟩ := hS.2.1.two
    go_simp
    exact hK.out _ _ _ rfl rfl rfl (Below.refl _ _)
  simp only [zD, zE, zF]
  refine obs_step (Eq.trans (by simp only [zA, zB, zC]; exact rfl) rfl) rfl (fun w' hS hV K hK => ?_) ?_
  · have e11 : x 11 = (.bool false) := hV 11 (by decide)
    have e16 : x 16 = undef := hV 16 (by decide)
    have q2 := hS.1; obtain ⟨q0, q1⟩ := hS.2.1.two
    go_simp
    exact hK.out _ _ _ rfl rfl rfl (Below.refl _ _)
  simp only [zD, zE, zF]
  refine obs_step (Eq.trans (by simp only [zA, zB, zC]; exact rfl) rfl) rfl (fun w' hS hV K hK => ?_) ?_
  · have e11 : x 11 = (.bool false) := hV 11 (by decide)
    have e15 : x 15 = undef := hV 15 (by decide)
    have e17 : x 17 = undef := hV 17 (by decide)
    have q2 := hS.1; obtain ⟨q0, q1⟩ := hS.2.1.two
    go_simp
    exact hK.out _ _ _ rfl rfl rfl (Below.refl _ _)
  simp only [zD, zE, zF]
  refine obs_step (Eq.trans (by simp only [zA, zB, zC]; exact rfl) rfl) rfl (fun w' hS hV K hK => ?_) ?_
  · have e11 : x 11 = (.bool false) := hV 11 (by decide)
    have e18 : x 18 = undef := hV 18 (by decide)
    have q2 := hS.1; obtain ⟨q0, q1⟩ := hS.2.1.two
    go_simp
    exact hK.out _ _ _ rfl rfl rfl (Below.refl _ _)
  simp only [zD, zE, zF]
  refine obs_step (Eq.trans (by simp only [zA, zB, zC]; exact rfl) rfl) rfl (fun w' hS hV K hK => ?_) ?_
  · have e19 : x 19 = (.bool false) := hV 19 (by decide)
    have q2 := hS.1; obtain ⟨q0, q1⟩ := hS.2.1.two
    go_simp
    exact hK.out _ _ _ rfl rfl rfl (Below.refl _ _)
  simp only [zD, zE, zF]
  refine fun w' hS hV => ?_
  have e0 : x 0 = (.agg #[.int .i64 P, .slice A n c]) := hV 0 (by decide)
  have e1 : x 1 = (.int .i64 (P)) := hV 1 (by decide)
  have e2 : x 2 = (.slice (some ⟨g, o, none⟩) r d) := hV 2 (by decide)
  have e3 : x 3 = (.bool false) := hV 3 (by decide)
  have e4 : x 4 = (.bool false) := hV 4 (by decide)
  have e5 : x 5 = undef := hV 5 (by decide)
  have e6 : x 6 = undef := hV 6 (by decide)
  have e7 : x 7 = undef := hV 7 (by decide)
  have e8 : x 8 = undef := hV 8 (by decide)
  have e9 : x 9 = undef := hV 9 (by decide)
  have e10 : x 10 = (.bool false) := hV 10 (by decide)
  have e11 : x 11 = (.bool false) := hV 11 (by decide)
  have e12 : x 12 = undef := hV 12 (by decide)
  have e13 : x 13 = undef := hV 13 (by decide)
  have e14 : x 14 = undef := hV 14 (by decide)
  have e15 : x 15 = undef := hV 15 (by decide)
  have e16 : x 16 = undef := hV 16 (by decide)
  have e17 : x 17 = undef := hV 17 (by decide)
  have e18 : x 18 = undef := hV 18 (by decide)
  have e19 : x 19 = (.bool false) := hV 19 (by decide)
  have e20 : x 20 = (.bool false) := hV 20 (by decide)
  simp only [e0, e1, e2, e3, e4, e5, e6, e7, e8, e9, e10, e11, e12, e13, e14, e15, e16, e17, e18, e19, e20]
  clear e0 e1 e2 e3 e4 e5 e6 e7 e8 e9 e10 e11 e12 e13 e14 e15 e16 e17 e18 e19 e20
  refine wpAny_done (by kernel_rfl) ?_ _
  have hb9 := hS.2.2
  go_wp2
  go_ret
  exact ⟨rfl, hb9⟩
set_option maxHeartbeats 1600000 in
set_option maxRecDepth 8000 in
theorem isFrame_1 (P : Int) (A : Option Addr) (n c : Nat) (sq : List Int) (D : Option Addr) (r d : Nat) (M : List (List Int)) (m : Nat) (w : World) (hp0 : 0 < P) (hp1 : P ≤ 13) (hr0 : 0 < r) (hr : r ≤ 16) (hm1 : 1 ≤ m) (hm : m ≤ 16) (hd : RdII w D r M) (hM : Rect m M) (hb : (M.all fun r => nums P r) = true) (h1 : r ≠ n) :
    Calls Tryz.prog 321 #[.agg #[.int .i64 P, .slice A n c], .slice D r d] w fun e w' => e = .returned (.bool false) ∧ Below w.heap.size w w' := by
  have t4 : ((r : Int) == (n : Int)) = false := by rw [beq_eq_false_iff_ne]; omega
  have hB0 : Below w.heap.size w (w.alloc (.cells #[.int .i64 P, .slice A n c] 26)) := (Below.refl _ _).alloc (Nat.le_refl _) _
  have k0 : Blk (w.alloc (.cells #[.int .i64 P, .slice A n c] 26)) w.heap.size 26 #[.int .i64 P, .slice A n c] := Blk.new _ _ _
  have HIM := Lib.hid fun w' (h : Below w.heap.size w w') => isMatrix_any P D r d M m w' hp0 hp1 hr0 hr hm1 hm (hd.below h) hM
  rw [hb] at HIM
  obtain ⟨g, o, rfl, hx0, A0, c0, hc0, -, -⟩ := (hd.below hB0).at_ hr0
  rw [hM M[0] (List.getElem_mem hx0), Nat.add_zero] at hc0
  clear hM hd hb
  obtain ⟨q0, q1⟩ := k0.two
  go_enter Tryz.func321, Tryz.ntmps321
  go_wp2
  refine wp_obs 21 [[], [0], [], [0, 1, 2], [0, 1, 2, 3], [0, 1, 2, 3, 4], [0, 1, 2, 3, 4, 5], [0, 1, 2, 3, 4], [0, 1, 2, 3, 4, 7], [0, 1, 2, 3, 4, 5, 6, 7, 8], [0, 1, 2, 3, 4, 5, 6, 7, 8, 9], [0, 1, 2, 3, 4, 5, 6, 7, 8, 9, 10], [0, 1, 2, 3, 4, 5, 6, 7, 8, 9, 10, 11], [0, 1, 2, 3, 4, 5, 6, 7, 8, 9, 10, 11, 12], [0, 1, 2, 3, 4, 5, 6, 7, 8, 9, 10, 11, 12, 13], [0, 1, 2, 3, 4, 5, 6, 7, 8, 9, 10, 11, 12, 13, 14], [0, 1, 2, 3, 4, 5, 6, 7, 8, 9, 10, 11], [0, 1, 2, 3, 4, 5, 6, 7, 8, 9, 10, 11, 16], [0, 1, 2, 3, 4, 5, 6, 7, 8, 9, 10, 11, 12, 13, 14, 15, 16, 17], [0, 1, 2, 3, 4, 5, 6, 7, 8, 9, 10, 11, 12, 13, 14, 15, 16, 17, 18], [0, 1, 2, 3, 4, 5, 6, 7, 8, 9, 10, 11, 12, 13, 14, 15, 16, 17, 18, 19]] [VIs (.agg #[.int .i64 P, .slice A n c]), VIs (.int .i64 (P)), VIs (.slice (some ⟨g, o, none⟩) r d), VIs (.bool true), VIs (.bool true), VIs (.slice (some ⟨g, o, none⟩) r d), VIs (.int .i64 (r)), VIs (.agg #[.int .i64 P, .slice A n c]), VIs (.int .i64 (n)), VIs (.bool false), VIs (.bool false), VIs (.bool false), VIs undef, VIs undef, VIs undef, VIs undef, VIs undef, VIs undef, VIs undef, VIs (.bool false), VIs (.bool false)] (fun w' => w'.cell? ⟨g, o, none⟩ = some (.slice A0 m c0) ∧ Blk w' w.heap.size 26 #[.int .i64 P, .slice A n c] ∧ Below w.heap.size w w') (by kernel_rfl) (by kernel_rfl) (fun _ _ h hb => ⟨(hb.cell (World.block_lt_of_cell? _ _ h.1)).trans h.1, h.2.1.below hb h.2.1.lt, h.2.2.trans (hb.mono h.2.2.size)⟩) (⟨hc0, k0.drew, hB0.drew⟩) (fun x => ?_)
  refine obs_step (Eq.trans (by simp only [zA, zC]; exact rfl) rfl) rfl (fun w' hS hV K hK => ?_) ?_
  · have q2 := hS.1; obtain ⟨q0, q1⟩ := hS.2.1.two
    go_simp
    exact hK.out _ _ _ rfl rfl rfl (Below.refl _ _)
  simp only [zD, zE, zF]
  refine obs_step (Eq.trans (by simp only [zA, zB, zC]; exact rfl) rfl) rfl (fun w' hS hV K hK => ?_) ?_
  · have e0 : x 0 = (.agg #[.int .i64 P, .slice A n c]) := hV 0 (by decide)
    have q2 := hS.1; obtain ⟨q0, q1⟩ := hS.2.1.two
    go_simp
    refine (field_any _ _ _ _ _).mono ?_
    rintro e v1 ⟨rfl, hb⟩
    exact hK.out _ _ _ rfl rfl rfl hb
  simp only [zD, zE, zF]
  refine obs_step (Eq.trans (by simp only [zA, zB, zC]; exact rfl) rfl) rfl (fun w' hS hV K hK => ?_) ?_
  · have q2 := hS.1; obtain ⟨q0, q1⟩ := hS.2.1.two
    go_simp
    exact hK.out _ _ _ rfl rfl rfl (Below.refl _ _)
  simp only [zD, zE, zF]
  refine obs_step (Eq.trans (by simp only [zA, zB, zC]; exact rfl) rfl) rfl (fun w' hS hV K hK => ?_) ?_
  · have e1 : x 1 = (.int .i64 (P)) := hV 1 (by decide)
    have e2 : x 2 = (.slice (some ⟨g, o, none⟩) r d) := hV 2 (by decide)
    have q2 := hS.1; obtain ⟨q0, q1⟩ := hS.2.1.two
    go_simp
    refine (HIM.out _ hS.2.2).mono ?_
    rintro e v1 ⟨rfl, rfl⟩
    exact hK.out _ _ _ rfl rfl rfl (Below.refl _ _)
  simp only [zD, zE, zF]
  refine obs_step (Eq.trans (by simp only [zA, zB, zC]; exact rfl) rfl) rfl (fun w' hS hV K hK => ?_) ?_
  · have e3 : x 3 = (.bool true) := hV 3 (by decide)
    have q2 := hS.1; obtain ⟨q0, q1⟩ := hS.2.1.two
    go_simp
    exact hK.out _ _ _ rfl rfl rfl (Below.refl _ _)
  simp only [zD, zE, zF]
  refine obs_step (Eq.trans (by simp only [zA, zB, zC]; exact rfl) rfl) rfl (fun w' hS hV K hK => ?_) ?_
  · have e4 : x 4 = (.bool true) := hV 4 (by decide)
    have q2 := hS.1; obtain ⟨q0, q1⟩ := hS.2.1.two
    go_simp
    exact hK.out _ _ _ rfl rfl rfl (Below.refl _ _)
  simp only [zD, zE, zF]
  refine obs_step (Eq.trans (by simp only [zA, zB, zC]; exact rfl) rfl) rfl (fun w' hS hV K hK => ?_) ?_
  · have e4 : x 4 = (.bool true) := hV 4 (by decide)
    have e5 : x 5 = (.slice (some ⟨g, o, none⟩) r d) := hV 5 (by decide)
    have q2 := hS.1; obtain ⟨q0, q1⟩ := hS.2.1.two
    go_simp
    exact hK.out _ _ _ rfl rfl rfl (Below.refl _ _)
  simp only [zD, zE, zF]
  refine obs_step (Eq.trans (by simp only [zA, zB, zC]; exact rfl) rfl) rfl (fun w' hS hV K hK => ?_) ?_
  · have e4 : x 4 = (.bool true) := hV 4 (by decide)
    have q2 := hS.1; obtain ⟨q0, q1⟩ := hS.2.1.two
    go_simp
    exact hK.out _ _ _ rfl rfl rfl (Below.refl _ _)
  simp only [zD, zE, zF]
  refine obs_step (Eq.trans (by simp only [zA, zB, zC]; exact rfl) rfl) rfl (fun w' hS hV K hK => ?_) ?_
  · have e4 : x 4 = (.bool true) := hV 4 (by decide)
    have e7 : x 7 = (.agg #[.int .i64 P, .slice A n c]) := hV 7 (by decide)
    have q2 := hS.1; obtain ⟨q0, q1⟩ := hS.2.1.two
    go_simp
    refine (dim_any _ _ _ _ _).mono ?_
    rintro e v1 ⟨rfl, hb⟩
    exact hK.out _ _ _ rfl rfl rfl hb
  simp only [zD, zE, zF]
  refine obs_step (Eq.trans (by simp only [zA, zB, zC]; exact rfl) rfl) rfl (fun w' hS hV K hK => ?_) ?_
  · have e4 : x 4 = (.bool true) := hV 4 (by decide)
    have e6 : x 6 = (.int .i64 (r)) := hV 6 (by decide)
    have e8 : x 8 = (.int .i64 (n)) := hV 8 (by decide)
    have q2 := hS.1; obtain ⟨q0, q1⟩ := hS.2.1.two
    go_simp
    exact hK.out _ _ _ rfl rfl rfl (Below.refl _ _)
  simp only [zD, zE, zF]
  refine obs_step (Eq.trans (by simp only [zA, zB, zC]; exact rfl) rfl) rfl (fun w' hS hV K hK => ?_) ?_
  · have e4 : x 4 = (.bool true) := hV 4 (by decide)
    have e9 : x 9 = (.bool false) := hV 9 (by decide)
    have q2 := hS.1; obtain ⟨q0, q1⟩ := hS.2.1.two
    go_simp
    exact hK.out _ _ _ rfl rfl rfl (Below.refl _ _)
  simp only [zD, zE, zF]
  refine obs_step (Eq.trans (by simp only [zA, zB, zC]; exact rfl) rfl) rfl (fun w' hS hV K hK => ?_) ?_
  · have e10 : x 10 = (.bool false) := hV 10 (by decide)
    have q2 := hS.1; obtain ⟨q0, q1⟩ := hS.2.1.two
    go_simp
    exact hK.out _ _ _ rfl rfl rfl (Below.refl _ _)
  simp only [zD, zE, zF]
  refine obs_step (Eq.trans (by simp only [zA, zB, zC]; exact rfl) rfl) rfl (fun w' hS hV K hK => ?_) ?_
  · have e11 : x 11 = (.bool false) := hV 11 (by decide)
    have q2 := hS.1; obtain ⟨q0, q1⟩ := hS.2.1.two
    go_simp
    exact hK.out _ _ _ rfl rfl rfl (Below.refl _ _)
  simp only [zD, zE, zF]
  refine obs_step (Eq.trans (by simp only [zA, zB, zC]; exact rfl) rfl) rfl (fun w' hS hV K hK => ?_) ?_
  · have e11 : x 11 = (.bool false) := hV 11 (by decide)
    have e12 : x 12 = undef := hV 12 (by decide)
    have q2 := hS.1; obtain ⟨q0, q1⟩ := hS.2.1.two
    go_simp
    exact hK.out _ _ _ rfl rfl rfl (Below.refl _ _)
  simp only [zD, zE, zF]
  refine obs_step (Eq.trans (by simp only [zA, zB, zC]; exact rfl) rfl) rfl (fun w' hS hV K hK => ?_) ?_
  · have e11 : x 11 = (.bool false) := hV 11 (by decide)
    have e13 : x 13 = undef := hV 13 (by decide)
    have q2 := hS.1; obtain ⟨q0, q1⟩ := hS.2.1.two
    go_simp
    exact hK.out _ _ _ rfl rfl rfl (Below.refl _ _)
  simp only [zD, zE, zF]
  refine obs_step (Eq.trans (by simp only [zA, zB, zC]; exact rfl) rfl) rfl (fun w' hS hV K hK => ?_) ?_
  · have e11 : x 11 = (.bool false) := hV 11 (by decide)
    have e14 : x 14 = undef := hV 14 (by decide)
    have q2 := hS.1; obtain ⟨q0, q1⟩ := hS.2.1.two
    go_simp
    exact hK.out _ _ _ rfl rfl rfl (Below.refl _ _)
  simp only [zD, zE, zF]
  refine obs_step (Eq.trans (by simp only [zA, zB, zC]; exact rfl) rfl) rfl (fun w' hS hV K hK => ?_) ?_
  · have e11 : x 11 = (.bool false) := hV 11 (by decide)
    have q2 := hS.1; obtain ⟨q0, q1⟩ := hS.2.1.two
    go_simp
    exact hK.out _ _ _ rfl rfl rfl (Below.refl _ _)
  simp only [zD, zE, zF]
  refine obs_step (Eq.trans (by simp only [zA, zB, zC]; exact rfl) rfl) rfl (fun w' hS hV K hK => ?_) ?_
  · have e11 : x 11 = (.bool false) := hV 11 (by decide)
    have e16 : x 16 = undef := hV 16 (by decide)
    have q2 := hS.1; obtain ⟨q0, q1⟩ := hS.2.1.two
    go_simp
    exact hK.out _ _ _ rfl rfl rfl (Below.refl _ _)
  simp only [zD, zE, zF]
  refine obs_step (Eq.trans (by simp only [zA, zB, zC]; exact rfl) rfl) rfl (fun w' hS hV K hK => ?_) ?_
  · have e11 : x 11 = (.bool false) := hV 11 (by decide)
    have e15 : x 15 = undef := hV 15 (by decide)
    have e17 : x 17 = undef := hV 17 (by decide)
    have q2 := hS.1; obtain ⟨q0, q1⟩ := hS.2.1.two
    go_simp
    exact hK.out _ _ _ rfl rfl rfl (Below.refl _ _)
  simp only [zD, zE, zF]
  refine obs_step (Eq.trans (by simp only [zA, zB, zC]; exact rfl) rfl) rfl (fun w' hS hV K hK => ?_) ?_
  · have e11 : x 11 = (.bool false) := hV 11 (by decide)
    have e18 : x 18 = undef := hV 18 (by decide)
    have q2 := hS.1; obtain ⟨q0, q1⟩ := hS.2.1.two
    go_simp
    exact hK.out _ _ _ rfl rfl rfl (Below.refl _ _)
  simp only [zD, zE, zF]
  refine obs_step (Eq.trans (by simp only [zA, zB, zC]; exact rfl) rfl) rfl (fun w' hS hV K hK => ?_) ?_
  · have e19 : x 19 = (.bool false) := hV 19 (by decide)
    have q2 := hS.1; obtain ⟨q0, q1⟩ := hS.2.1.two
    go_simp
    exact hK.out _ _ _ rfl rfl rfl (Below.refl _ _)
  simp only [zD, zE, zF]
  refine fun w' hS hV => ?_
  have e0 : x 0 = (.agg #[.int .i64 P, .slice A n c]) := hV 0 (by decide)
  have e1 : x 1 = (.int .i64 (P)) := hV 1 (by decide)
  have e2 : x 2 = (.slice (some ⟨g, o, none⟩) r d) := hV 2 (by decide)
  have e3 : x 3 = (.bool true) := hV 3 (by decide)
  have e4 : x 4 = (.bool true) := hV 4 (by decide)
  have e5 : x 5 = (.slice (some ⟨g, o, none⟩) r d) := hV 5 (by decide)
  have e6 : x 6 = (.int .i64 (r)) := hV 6 (by decide)
  have e7 : x 7 = (.agg #[.int .i64 P, .slice A n c]) := hV 7 (by decide)
  have e8 : x 8 = (.int .i64 (n)) := hV 8 (by decide)
  have e9 : x 9 = (.bool false) := hV 9 (by decide)
  have e10 : x 10 = (.bool false) := hV 10 (by decide)
  have e11 : x 11 = (.bool false) := hV 11 (by decide)
  have e12 : x 12 = undef := hV 12 (by decide)
  have e13 : x 13 = undef := hV 13 (by decide)
  have e14 : x 14 = undef := hV 14 (by decide)
  have e15 : x 15 = undef := hV 15 (by decide)
  have e16 : x 16 = undef := hV 16 (by decide)
  have e17 : x 17 = undef := hV 17 (by decide)
  have e18 : x 18 = undef := hV 18 (by decide)
  have e19 : x 19 = (.bool false) := hV 19 (by decide)
  have e20 : x 20 = (.bool false) := hV 20 (by decide)
  simp only [e0, e1, e2, e3, e4, e5, e6, e7, e8, e9, e10, e11, e12, e13, e14, e15, e16, e17, e18, e19, e20]
  clear e0 e1 e2 e3 e4 e5 e6 e7 e8 e9 e10 e11 e12 e13 e14 e15 e16 e17 e18 e19 e20
  refine wpAny_done (by kernel_rfl) ?_ _
  have hb9 := hS.2.2
  go_wp2
  go_ret
  exact ⟨rfl, hb9⟩
set_option maxHeartbeats 1600000 in
set_option maxRecDepth 8000 in
theorem isFrame_2 (P : Int) (A : Option Addr) (n c : Nat) (sq : List Int) (D : Option Addr) (r d : Nat) (M : List (List Int)) (m : Nat) (w : World) (hp0 : 0 < P) (hp1 : P ≤ 13) (hr0 : 0 < r) (hr : r ≤ 16) (hm1 : 1 ≤ m) (hm : m ≤ 16) (hd : RdII w D r M) (hM : Rect m M) (hb : (M.all fun r => nums P r) = true) (h1 : r = n) (h2 : m ≠ n) :
    Calls Tryz.prog 321 #[.agg #[.int .i64 P, .slice A n c], .slice D r d] w fun e w' => e = .returned (.bool false) ∧ Below w.heap.size w w' := by
  subst h1
  have t4 : ((r : Int) == (r : Int)) = true := by simp
  have t5 : ((m : Int) == (r : Int)) = false := by rw [beq_eq_false_iff_ne]; omega
  have hB0 : Below w.heap.size w (w.alloc (.cells #[.int .i64 P, .slice A r c] 26)) := (Below.refl _ _).alloc (Nat.le_refl _) _
  have k0 : Blk (w.alloc (.cells #[.int .i64 P, .slice A r c] 26)) w.heap.size 26 #[.int .i64 P, .slice A r c] := Blk.new _ _ _
  have HIM := Lib.hid fun w' (h : Below w.heap.size w w') => isMatrix_any P D r d M m w' hp0 hp1 hr0 hr hm1 hm (hd.below h) hM
  rw [hb] at HIM
  obtain ⟨g, o, rfl, hx0, A0, c0, hc0, -, -⟩ := (hd.below hB0).at_ hr0
  rw [hM M[0] (List.getElem_mem hx0), Nat.add_zero] at hc0
  clear hM hd hb
  obtain ⟨q0, q1⟩ := k0.two
  go_enter Tryz.func321, Tryz.ntmps321
  go_wp2
  refine wp_obs 21 [[], [0], [], [0, 1, 2], [0, 1, 2, 3], [0, 1, 2, 3, 4], [0, 1, 2, 3, 4, 5], [0, 1, 2, 3, 4], [0, 1, 2, 3, 4, 7], [0, 1, 2, 3, 4, 5, 6, 7, 8], [0, 1, 2, 3, 4, 5, 6, 7, 8, 9], [0, 1, 2, 3, 4, 5, 6, 7, 8, 9, 10], [0, 1, 2, 3, 4, 5, 6, 7, 8, 9, 10, 11], [0, 1, 2, 3, 4, 5, 6, 7, 8, 9, 10, 11, 12], [0, 1, 2, 3, 4, 5, 6, 7, 8, 9, 10, 11, 12, 13], [0, 1, 2, 3, 4, 5, 6, 7, 8, 9, 10, 11, 12, 13, 14], [0, 1, 2, 3, 4, 5, 6, 7, 8, 9, 10, 11], [0, 1, 2, 3, 4, 5, 6, 7, 8, 9, 10, 11, 16], [0, 1, 2, 3, 4, 5, 6, 7, 8, 9, 10, 11, 12, 13, 14, 15, 16, 17], [0, 1, 2, 3, 4, 5, 6, 7, 8, 9, 10, 11, 12, 13, 14, 15, 16, 17, 18], [0, 1, 2, 3, 4, 5, 6, 7, 8, 9, 10, 11, 12, 13, 14, 15, 16, 17, 18, 19]] [VIs (.agg #[.int .i64 P, .slice A r c]), VIs (.int .i64 (P)), VIs (.slice (some ⟨g, o, none⟩) r d), VIs (.bool true), VIs (.bool true), VIs (.slice (some ⟨g, o, none⟩) r d), VIs (.int .i64 (r)), VIs (.agg #[.int .i64 P, .slice A r c]), VIs (.int .i64 (r)), VIs (.bool true), VIs (.bool true), VIs (.bool true), VIs (.slice (some ⟨g, o, none⟩) r d), VIs (.pointer (some ⟨g, o, none⟩)), VIs (.slice A0 m c0), VIs (.int .i64 (m)), VIs (.agg #[.int .i64 P, .slice A r c]), VIs (.int .i64 (r)), VIs (.bool false), VIs (.bool false), VIs (.bool false)] (fun w' => w'.cell? ⟨g, o, none⟩ = some (.slice A0 m c0) ∧ Blk w' w.heap.size 26 #[.int .i64 P, .slice A r c] ∧ Below w.heap.size w w') (by kernel_rfl) (by kernel_rfl) (fun _ _ h hb => ⟨(hb.cell (World.block_lt_of_cell? _ _ h.1)).trans h.1, h.2.1.below hb h.2.1.lt, h.2.2.trans (hb.mono h.2.2.size)⟩) (⟨hc0, k0.drew, hB0.drew⟩) (fun x => ?_)
  refine obs_step (Eq.trans (by simp only [zA, zC]; exact rfl) rfl) rfl (fun w' hS hV K hK => ?_) ?_
  · have q2 := hS.1; obtain ⟨q0, q1⟩ := hS.2.1.two
    go_simp
    exact hK.out _ _ _ rfl rfl rfl (Below.refl _ _)
  simp only [zD, zE, zF]
  refine obs_step (Eq.trans (by simp only [zA, zB, zC]; exact rfl) rfl) rfl (fun w' hS hV K hK => ?_) ?_
  · have e0 : x 0 = (.agg #[.int .i64 P, .slice A r c]) := hV 0 (by decide)
    have q2 := hS.1; obtain ⟨q0, q1⟩ := hS.2.1.two
    go_simp
    refine (field_any _ _ _ _ _).mono ?_
    rintro e v1 ⟨rfl, hb⟩
    exact hK.out _ _ _ rfl rfl rfl hb
  simp only [zD, zE, zF]
  refine obs_step (Eq.trans (by simp only [zA, zB, zC]; exact rfl) rfl) rfl (fun w' hS hV K hK => ?_) ?_
  · have q2 := hS.1; obtain ⟨q0, q1⟩ := hS.2.1.two
    go_simp
    exact hK.out _ _ _ rfl rfl rfl (Below.refl _ _)
  simp only [zD, zE, zF]
  refine obs_step (Eq.trans (by simp only [zA, zB, zC]; exact rfl) rfl) rfl (fun w' hS hV K hK => ?_) ?_
  · have e1 : x 1 = (.int .i64 (P)) := hV 1 (by decide)
    have e2 : x 2 = (.slice (some ⟨g, o, none⟩) r d) := hV 2 (by decide)
    have q2 := hS.1; obtain ⟨q0, q1⟩ := hS.2.1.two
    go_simp
    refine (HIM.out _ hS.2.2).mono ?_
    rintro e v1 ⟨rfl, rfl⟩
    exact hK.out _ _ _ rfl rfl rfl (Below.refl _ _)
  simp only [zD, zE, zF]
  refine obs_step (Eq.trans (by simp only [zA, zB, zC]; exact rfl) rfl) rfl (fun w' hS hV K hK => ?_) ?_
  · have e3 : x 3 = (.bool true) := hV 3 (by decide)
    have q2 := hS.1; obtain ⟨q0, q1⟩ := hS.2.1.two
    go_simp
    exact hK.out _ _ _ rfl rfl rfl (Below.refl _ _)
  simp only [zD, zE, zF]
  refine obs_step (Eq.trans (by simp only [zA, zB, zC]; exact rfl) rfl) rfl (fun w' hS hV K hK => ?_) ?_
  · have e4 : x 4 = (.bool true) := hV 4 (by decide)
    have q2 := hS.1; obtain ⟨q0, q1⟩ := hS.2.1.two
    go_simp
    exact hK.out _ _ _ rfl rfl rfl (Below.refl _ _)
  simp only [zD, zE, zF]
  refine obs_step (Eq.trans (by simp only [zA, zB, zC]; exact rfl) rfl) rfl (fun w' hS hV K hK => ?_) ?_
  · have e4 : x 4 = (.bool true) := hV 4 (by decide)
    have e5 : x 5 = (.slice (some ⟨g, o, none⟩) r d) := hV 5 (by decide)
    have q2 := hS.1; obtain ⟨q0, q1⟩ := hS.2.1.two
    go_simp
    exact hK.out _ _ _ rfl rfl rfl (Below.refl _ _)
  simp only [zD, zE, zF]
  refine obs_step (Eq.trans (by simp only [zA, zB, zC]; exact rfl) rfl) rfl (fun w' hS hV K hK => ?_) ?_
  · have e4 : x 4 = (.bool true) := hV 4 (by decide)
    have q2 := hS.1; obtain ⟨q0, q1⟩ := hS.2.1.two
    go_simp
    exact hK.out _ _ _ rfl rfl rfl (Below.refl _ _)
  simp only [zD, zE, zF]
  refine obs_step (Eq.trans (by simp only [zA, zB, zC]; exact rfl) rfl) rfl (fun w' hS hV K hK => ?_) ?_
  · have e4 : x 4 = (.bool true) := hV 4 (by decide)
    have e7 : x 7 = (.agg #[.int .i64 P, .slice A r c]) := hV 7 (by decide)
    have q2 := hS.1; obtain ⟨q0, q1⟩ := hS.2.1.two
    go_simp
    refine (dim_any _ _ _ _ _).mono ?_
    rintro e v1 ⟨rfl, hb⟩
    exact hK.out _ _ _ rfl rfl rfl hb
  simp only [zD, zE, zF]
  refine obs_step (Eq.trans (by simp only [zA, zB, zC]; exact rfl) rfl) rfl (fun w' hS hV K hK => ?_) ?_
  · have e4 : x 4 = (.bool true) := hV 4 (by decide)
    have e6 : x 6 = (.int .i64 (r)) := hV 6 (by decide)
    have e8 : x 8 = (.int .i64 (r)) := hV 8 (by decide)
    have q2 := hS.1; obtain ⟨q0, q1⟩ := hS.2.1.two
    go_simp
    exact hK.out _ _ _ rfl rfl rfl (Below.refl _ _)
  simp only [zD, zE, zF]
  refine obs_step (Eq.trans (by simp only [zA, zB, zC]; exact rfl) rfl) rfl (fun w' hS hV K hK => ?_) ?_
  · have e4 : x 4 = (.bool true) := hV 4 (by decide)
    have e9 : x 9 = (.bool true) := hV 9 (by decide)
    have q2 := hS.1; obtain ⟨q0, q1⟩ := hS.2.1.two
    go_simp
    exact hK.out _ _ _ rfl rfl rfl (Below.refl _ _)
  simp only [zD, zE, zF]
  refine obs_step (Eq.trans (by simp only [zA, zB, zC]; exact rfl) rfl) rfl (fun w' hS hV K hK => ?_) ?_
  · have e10 : x 10 = (.bool true) := hV 10 (by decide)
    have q2 := hS.1; obtain ⟨q0, q1⟩ := hS.2.1.two
    go_simp
    exact hK.out _ _ _ rfl rfl rfl (Below.refl _ _)
  simp only [zD, zE, zF]
  refine obs_step (Eq.trans (by simp only [zA, zB, zC]; exact rfl) rfl) rfl (fun w' hS hV K hK => ?_) ?_
  · have e11 : x 11 = (.bool true) := hV 11 (by decide)
    have q2 := hS.1; obtain ⟨q0, q1⟩ := hS.2.1.two
    go_simp
    exact hK.out _ _ _ rfl rfl rfl (Below.refl _ _)
  simp only [zD, zE, zF]
  refine obs_step (Eq.trans (by simp only [zA, zB, zC]; exact rfl) rfl) rfl (fun w' hS hV K hK => ?_) ?_
  · have e11 : x 11 = (.bool true) := hV 11 (by decide)
    have e12 : x 12 = (.slice (some ⟨g, o, none⟩) r d) := hV 12 (by decide)
    have q2 := hS.1; obtain ⟨q0, q1⟩ := hS.2.1.two
    go_simp
    exact hK.out _ _ _ rfl rfl rfl (Below.refl _ _)
  simp only [zD, zE, zF]
  refine obs_step (Eq.trans (by simp only [zA, zB, zC]; exact rfl) rfl) rfl (fun w' hS hV K hK => ?_) ?_
  · have e11 : x 11 = (.bool true) := hV 11 (by decide)
    have e13 : x 13 = (.pointer (some ⟨g, o, none⟩)) := hV 13 (by decide)
    have q2 := hS.1; obtain ⟨q0, q1⟩ := hS.2.1.two
    go_simp
    exact hK.out _ _ _ rfl rfl rfl (Below.refl _ _)
  simp only [zD, zE, zF]
  refine obs_step (Eq.trans (by simp only [zA, zB, zC]; exact rfl) rfl) rfl (fun w' hS hV K hK => ?_) ?_
  · have e11 : x 11 = (.bool true) := hV 11 (by decide)
    have e14 : x 14 = (.slice A0 m c0) := hV 14 (by decide)
    have q2 := hS.1; obtain ⟨q0, q1⟩ := hS.2.1.two
    go_simp
    exact hK.out _ _ _ rfl rfl rfl (Below.refl _ _)
  simp only [zD, zE, zF]
  refine obs_step (Eq.trans (by simp only [zA, zB, zC]; exact rfl) rfl) rfl (fun w' hS hV K hK => ?_) ?_
  · have e11 : x 11 = (.bool true) := hV 11 (by decide)
    have q2 := hS.1; obtain ⟨q0, q1⟩ := hS.2.1.two
    go_simp
    exact hK.out _ _ _ rfl rfl rfl (Below.refl _ _)
  simp only [zD, zE, zF]
  refine obs_step (Eq.trans (by simp only [zA, zB, zC]; exact rfl) rfl) rfl (fun w' hS hV K hK => ?_) ?_
  · have e11 : x 11 = (.bool true) := hV 11 (by decide)
    have e16 : x 16 = (.agg #[.int .i64 P, .slice A r c]) := hV 16 (by decide)
    have q2 := hS.1; obtain ⟨q0, q1⟩ := hS.2.1.two
    go_simp
    refine (dim_any _ _ _ _ _).mono ?_
    rintro e v1 ⟨rfl, hb⟩
    exact hK.out _ _ _ rfl rfl rfl hb
  simp only [zD, zE, zF]
  refine obs_step (Eq.trans (by simp only [zA, zB, zC]; exact rfl) rfl) rfl (fun w' hS hV K hK => ?_) ?_
  · have e11 : x 11 = (.bool true) := hV 11 (by decide)
    have e15 : x 15 = (.int .i64 (m)) := hV 15 (by decide)
    have e17 : x 17 = (.int .i64 (r)) := hV 17 (by decide)
    have q2 := hS.1; obtain ⟨q0, q1⟩ := hS.2.1.two
    go_simp
    exact hK.out _ _ _ rfl rfl rfl (Below.refl _ _)
  simp only [zD, zE, zF]
  refine obs_step (Eq.trans (by simp only [zA, zB, zC]; exact rfl) rfl) rfl (fun w' hS hV K hK => ?_) ?_
  · have e11 : x 11 = (.bool true) := hV 11 (by decide)
    have e18 : x 18 = (.bool false) := hV 18 (by decide)
    have q2 := hS.1; obtain ⟨q0, q1⟩ := hS.2.1.two
    go_simp
    exact hK.out _ _ _ rfl rfl rfl (Below.refl _ _)
  simp only [zD, zE, zF]
  refine obs_step (Eq.trans (by simp only [zA, zB, zC]; exact rfl) rfl) rfl (fun w' hS hV K hK => ?_) ?_
  · have e19 : x 19 = (.bool false) := hV 19 (by decide)
    have q2 := hS.1; obtain ⟨q0, q1⟩ := hS.2.1.two
    go_simp
    exact hK.out _ _ _ rfl rfl rfl (Below.refl _ _)
  simp only [zD, zE, zF]
  refine fun w' hS hV => ?_
  have e0 : x 0 = (.agg #[.int .i64 P, .slice A r c]) := hV 0 (by decide)
  have e1 : x 1 = (.int .i64 (P)) := hV 1 (by decide)
  have e2 : x 2 = (.slice (some ⟨g, o, none⟩) r d) := hV 2 (by decide)
  have e3 : x 3 = (.bool true) := hV 3 (by decide)
  have e4 : x 4 = (.bool true) := hV 4 (by decide)
  have e5 : x 5 = (.slice (some ⟨g, o, none⟩) r d) := hV 5 (by decide)
  have e6 : x 6 = (.int .i64 (r)) := hV 6 (by decide)
  have e7 : x 7 = (.agg #[.int .i64 P, .slice A r c]) := hV 7 (by decide)
  have e8 : x 8 = (.int .i64 (r)) := hV 8 (by decide)
  have e9 : x 9 = (.bool true) := hV 9 (by decide)
  have e10 : x 10 = (.bool true) := hV 10 (by decide)
  have e11 : x 11 = (.bool true) := hV 11 (by decide)
  have e12 : x 12 = (.slice (some ⟨g, o, none⟩) r d) := hV 12 (by decide)
  have e13 : x 13 = (.pointer (some ⟨g, o, none⟩)) := hV 13 (by decide)
  have e14 : x 14 = (.slice A0 m c0) := hV 14 (by decide)
  have e15 : x 15 = (.int .i64 (m)) := hV 15 (by decide)
  have e16 : x 16 = (.agg #[.int .i64 P, .slice A r c]) := hV 16 (by decide)
  have e17 : x 17 = (.int .i64 (r)) := hV 17 (by decide)
  have e18 : x 18 = (.bool false) := hV 18 (by decide)
  have e19 : x 19 = (.bool false) := hV 19 (by decide)
  have e20 : x 20 = (.bool false) := hV 20 (by decide)
  simp only [e0, e1, e2, e3, e4, e5, e6, e7, e8, e9, e10, e11, e12, e13, e14, e15, e16, e17, e18, e19, e20]
  clear e0 e1 e2 e3 e4 e5 e6 e7 e8 e9 e10 e11 e12 e13 e14 e15 e16 e17 e18 e19 e20
  refine wpAny_done (by kernel_rfl) ?_ _
  have hb9 := hS.2.2
  go_wp2
  go_ret
  exact ⟨rfl, hb9⟩
set_option maxHeartbeats 1600000 in
set_option maxRecDepth 8000 in
theorem isFrame_3 (P : Int) (A : Option Addr) (n c : Nat) (sq : List Int) (D : Option Addr) (r d : Nat) (M : List (List Int)) (m : Nat) (w : World) (hp0 : 0 < P) (hp1 : P ≤ 13) (hr0 : 0 < r) (hr : r ≤ 16) (hm1 : 1 ≤ m) (hm : m ≤ 16) (hd : RdII w D r M) (hM : Rect m M) (hb : (M.all fun r => nums P r) = true) (h1 : r = n) (h2 : m = n) :
    Calls Tryz.prog 321 #[.agg #[.int .i64 P, .slice A n c], .slice D r d] w fun e w' => e = .returned (.bool true) ∧ Below w.heap.size w w' := by
  subst h1; subst h2
  have t4 : ((m : Int) == (m : Int)) = true := by simp
  have hB0 : Below w.heap.size w (w.alloc (.cells #[.int .i64 P, .slice A m c] 26)) := (Below.refl _ _).alloc (Nat.le_refl _) _
  have k0 : Blk (w.alloc (.cells #[.int .i64 P, .slice A m c] 26)) w.heap.size 26 #[.int .i64 P, .slice A m c] := Blk.new _ _ _
  have HIM := Lib.hid fun w' (h : Below w.heap.size w w') => isMatrix_any P D m d M m w' hp0 hp1 hr0 hr hm1 hm (hd.below h) hM
  rw [hb] at HIM
  obtain ⟨g, o, rfl, hx0, A0, c0, hc0, -, -⟩ := (hd.below hB0).at_ hr0
  rw [hM M[0] (List.getElem_mem hx0), Nat.add_zero] at hc0
  clear hM hd hb
  obtain ⟨q0, q1⟩ := k0.two
  go_enter Tryz.func321, Tryz.ntmps321
  go_wp2
  refine wp_obs 21 [[], [0], [], [0, 1, 2], [0, 1, 2, 3], [0, 1, 2, 3, 4], [0, 1, 2, 3, 4, 5], [0, 1, 2, 3, 4], [0, 1, 2, 3, 4, 7], [0, 1, 2, 3, 4, 5, 6, 7, 8], [0, 1, 2, 3, 4, 5, 6, 7, 8, 9], [0, 1, 2, 3, 4, 5, 6, 7, 8, 9, 10], [0, 1, 2, 3, 4, 5, 6, 7, 8, 9, 10, 11], [0, 1, 2, 3, 4, 5, 6, 7, 8, 9, 10, 11, 12], [0, 1, 2, 3, 4, 5, 6, 7, 8, 9, 10, 11, 12, 13], [0, 1, 2, 3, 4, 5, 6, 7, 8, 9, 10, 11, 12, 13, 14], [0, 1, 2, 3, 4, 5, 6, 7, 8, 9, 10, 11], [0, 1, 2, 3, 4, 5, 6, 7, 8, 9, 10, 11, 16], [0, 1, 2, 3, 4, 5, 6, 7, 8, 9, 10, 11, 12, 13, 14, 15, 16, 17], [0, 1, 2, 3, 4, 5, 6, 7, 8, 9, 10, 11, 12, 13, 14, 15, 16, 17, 18], [0, 1, 2, 3, 4, 5, 6, 7, 8, 9, 10, 11, 12, 13, 14, 15, 16, 17, 18, 19]] [VIs (.agg #[.int .i64 P, .slice A m c]), VIs (.int .i64 (P)), VIs (.slice (some ⟨g, o, none⟩) m d), VIs (.bool true), VIs (.bool true), VIs (.slice (some ⟨g, o, none⟩) m d), VIs (.int .i64 (m)), VIs (.agg #[.int .i64 P, .slice A m c]), VIs (.int .i64 (m)), VIs (.bool true), VIs (.bool true), VIs (.bool true), VIs (.slice (some ⟨g, o, none⟩) m d), VIs (.pointer (some ⟨g, o, none⟩)), VIs (.slice A0 m c0), VIs (.int .i64 (m)), VIs (.agg #[.int .i64 P, .slice A m c]), VIs (.int .i64 (m)), VIs (.bool true), VIs (.bool true), VIs (.bool true)] (fun w' => w'.cell? ⟨g, o, none⟩ = some (.slice A0 m c0) ∧ Blk w' w.heap.size 26 #[.int .i64 P, .slice A m c] ∧ Below w.heap.size w w') (by kernel_rfl) (by kernel_rfl) (fun _ _ h hb => ⟨(hb.cell (World.block_lt_of_cell? _ _ h.1)).trans h.1, h.2.1.below hb h.2.1.lt, h.2.2.trans (hb.mono h.2.2.size)⟩) (⟨hc0, k0.drew, hB0.drew⟩) (fun x => ?_)
  refine obs_step (Eq.trans (by simp only [zA, zC]; exact rfl) rfl) rfl (fun w' hS hV K hK => ?_) ?_
  · have q2 := hS.1; obtain ⟨q0, q1⟩ := hS.2.1.two
    go_simp
    exact hK.out _ _ _ rfl rfl rfl (Below.refl _ _)
  simp only [zD, zE, zF]
  refine obs_step (Eq.trans (by simp only [zA, zB, zC]; exact rfl) rfl) rfl (fun w' hS hV K hK => ?_) ?_
  · have e0 : x 0 = (.agg #[.int .i64 P, .slice A m c]) := hV 0 (by decide)
    have q2 := hS.1; obtain ⟨q0, q1⟩ := hS.2.1.two
    go_simp
    refine (field_any _ _ _ _ _).mono ?_
    rintro e v1 ⟨rfl, hb⟩
    exact hK.out _ _ _ rfl rfl rfl hb
  simp only [zD, zE, zF]
  refine obs_step (Eq.trans (by simp only [zA, zB, zC]; exact rfl) rfl) rfl (fun w' hS hV K hK => ?_) ?_
  · have q2 := hS.1; obtain ⟨q0, q1⟩ := hS.2.1.two
    go_simp
    exact hK.out _ _ _ rfl rfl rfl (Below.refl _ _)
  simp only [zD, zE, zF]
  refine obs_step (Eq.trans (by simp only [zA, zB, zC]; exact rfl) rfl) rfl (fun w' hS hV K hK => ?_) ?_
  · have e1 : x 1 = (.int .i64 (P)) := hV 1 (by decide)
    have e2 : x 2 = (.slice (some ⟨g, o, none⟩) m d) := hV 2 (by decide)
    have q2 := hS.1; obtain ⟨q0, q1⟩ := hS.2.1.two
    go_simp
    refine (HIM.out _ hS.2.2).mono ?_
    rintro e v1 ⟨rfl, rfl⟩
    exact hK.out _ _ _ rfl rfl rfl (Below.refl _ _)
  simp only [zD, zE, zF]
  refine obs_step (Eq.trans (by simp only [zA, zB, zC]; exact rfl) rfl) rfl (fun w' hS hV K hK => ?_) ?_
  · have e3 : x 3 = (.bool true) := hV 3 (by decide)
    have q2 := hS.1; obtain ⟨q0, q1⟩ := hS.2.1.two
    go_simp
    exact hK.out _ _ _ rfl rfl rfl (Below.refl _ _)
  simp only [zD, zE, zF]
  refine obs_step (Eq.trans (by simp only [zA, zB, zC]; exact rfl) rfl) rfl (fun w' hS hV K hK => ?_) ?_
  · have e4 : x 4 = (.bool true) := hV 4 (by decide)
    have q2 := hS.1; obtain ⟨q0, q1⟩ := hS.2.1.two
    go_simp
    exact hK.out _ _ _ rfl rfl rfl (Below.refl _ _)
  simp only [zD, zE, zF]
  refine obs_step (Eq.trans (by simp only [zA, zB, zC]; exact rfl) rfl) rfl (fun w' hS hV K hK => ?_) ?_
  · have e4 : x 4 = (.bool true) := hV 4 (by decide)
    have e5 : x 5 = (.slice (some ⟨g, o, none⟩) m d) := hV 5 (by decide)
    have q2 := hS.1; obtain ⟨q0, q1⟩ := hS.2.1.two
    go_simp
    exact hK.out _ _ _ rfl rfl rfl (Below.refl _ _)
  simp only [zD, zE, zF]
  refine obs_step (Eq.trans (by simp only [zA, zB, zC]; exact rfl) rfl) rfl (fun w' hS hV K hK => ?_) ?_
  · have e4 : x 4 = (.bool true) := hV 4 (by decide)
    have q2 := hS.1; obtain ⟨q0, q1⟩ := hS.2.1.two
    go_simp
    exact hK.out _ _ _ rfl rfl rfl (Below.refl _ _)
  simp only [zD, zE, zF]
  refine obs_step (Eq.trans (by simp only [zA, zB, zC]; exact rfl) rfl) rfl (fun w' hS hV K hK => ?_) ?_
  · have e4 : x 4 = (.bool true) := hV 4 (by decide)
    have e7 : x 7 = (.agg #[.int .i64 P, .slice A m c]) := hV 7 (by decide)
    have q2 := hS.1; obtain ⟨q0, q1⟩ := hS.2.1.two
    go_simp
    refine (dim_any _ _ _ _ _).mono ?_
    rintro e v1 ⟨rfl, hb⟩
    exact hK.out _ _ _ rfl rfl rfl hb
  simp only [zD, zE, zF]
  refine obs_step (Eq.trans (by simp only [zA, zB, zC]; exact rfl) rfl) rfl (fun w' hS hV K hK => ?_) ?_
  · have e4 : x 4 = (.bool true) := hV 4 (by decide)
    have e6 : x 6 = (.int .i64 (m)) := hV 6 (by decide)
    have e8 : x 8 = (.int .i64 (m)) := hV 8 (by decide)
    have q2 := hS.1; obtain ⟨q0, q1⟩ := hS.2.1.two
    go_simp
    exact hK.out _ _ _ rfl rfl rfl (Below.refl _ _)
  simp only [zD, zE, zF]
  refine obs_step (Eq.trans (by simp only [zA, zB, zC]; exact rfl) rfl) rfl (fun w' hS hV K hK => ?_) ?_
  · have e4 : x 4 = (.bool true) := hV 4 (by decide)
    have e9 : x 9 = (.bool true) := hV 9 (by decide)
    have q2 := hS.1; obtain ⟨q0, q1⟩ := hS.2.1.two
    go_simp
    exact hK.out _ _ _ rfl rfl rfl (Below.refl _ _)
  simp only [zD, zE, zF]
  refine obs_step (Eq.trans (by simp only [zA, zB, zC]; exact rfl) rfl) rfl (fun w' hS hV K hK => ?_) ?_
  · have e10 : x 10 = (.bool true) := hV 10 (by decide)
    have q2 := hS.1; obtain ⟨q0, q1⟩ := hS.2.1.two
    go_simp
    exact hK.out _ _ _ rfl rfl rfl (Below.refl _ _)
  simp only [zD, zE, zF]
  refine obs_step (Eq.trans (by simp only [zA, zB, zC]; exact rfl) rfl) rfl (fun w' hS hV K hK => ?_) ?_
  · have e11 : x 11 = (.bool true) := hV 11 (by decide)
    have q2 := hS.1; obtain ⟨q0, q1⟩ := hS.2.1.two
    go_simp
    exact hK.out _ _ _ rfl rfl rfl (Below.refl _ _)
  simp only [zD, zE, zF]
  refine obs_step (Eq.trans (by simp only [zA, zB, zC]; exact rfl) rfl) rfl (fun w' hS hV K hK => ?_) ?_
  · have e11 : x 11 = (.bool true) := hV 11 (by decide)
    have e12 : x 12 = (.slice (some ⟨g, o, none⟩) m d) := hV 12 (by decide)
    have q2 := hS.1; obtain ⟨q0, q1⟩ := hS.2.1.two
    go_simp
    exact hK.out _ _ _ rfl rfl rfl (Below.refl _ _)
  simp only [zD, zE, zF]
  refine obs_step (Eq.trans (by simp only [zA, zB, zC]; exact rfl) rfl) rfl (fun w' hS hV K hK => ?_) ?_
  · have e11 : x 11 = (.bool true) := hV 11 (by decide)
    have e13 : x 13 = (.pointer (some ⟨g, o, none⟩)) := hV 13 (by decide)
    have q2 := hS.1; obtain ⟨q0, q1⟩ := hS.2.1.two
    go_simp
    exact hK.out _ _ _ rfl rfl rfl (Below.refl _ _)
  simp only [zD, zE, zF]
  refine obs_step (Eq.trans (by simp only [zA, zB, zC]; exact rfl) rfl) rfl (fun w' hS hV K hK => ?_) ?_
  · have e11 : x 11 = (.bool true) := hV 11 (by decide)
    have e14 : x 14 = (.slice A0 m c0) := hV 14 (by decide)
    have q2 := hS.1; obtain ⟨q0, q1⟩ := hS.2.1.two
    go_simp
    exact hK.out _ _ _ rfl rfl rfl (Below.refl _ _)
  simp only [zD, zE, zF]
  refine obs_step (Eq.trans (by simp only [zA, zB, zC]; exact rfl) rfl) rfl (fun w' hS hV K hK => ?_) ?_
  · have e11 : x 11 = (.bool true) := hV 11 (by decide)
    have q2 := hS.1; obtain ⟨q0, q1⟩ := hS.2.1.two
    go_simp
    exact hK.out _ _ _ rfl rfl rfl (Below.refl _ _)
  simp only [zD, zE, zF]
  refine obs_step (Eq.trans (by simp only [zA, zB, zC]; exact rfl) rfl) rfl (fun w' hS hV K hK => ?_) ?_
  · have e11 : x 11 = (.bool true) := hV 11 (by decide)
    have e16 : x 16 = (.agg #[.int .i64 P, .slice A m c]) := hV 16 (by decide)
    have q2 := hS.1; obtain ⟨q0, q1⟩ := hS.2.1.two
    go_simp
    refine (dim_any _ _ _ _ _).mono ?_
    rintro e v1 ⟨rfl, hb⟩
    exact hK.out _ _ _ rfl rfl rfl hb
  simp only [zD, zE, zF]
  refine obs_step (Eq.trans (by simp only [zA, zB, zC]; exact rfl) rfl) rfl (fun w' hS hV K hK => ?_) ?_
  · have e11 : x 11 = (.bool true) := hV 11 (by decide)
    have e15 : x 15 = (.int .i64 (m)) := hV 15 (by decide)
    have e17 : x 17 = (.int .i64 (m)) := hV 17 (by decide)
    have q2 := hS.1; obtain ⟨q0, q1⟩ := hS.2.1.two
    go_simp
    exact hK.out _ _ _ rfl rfl rfl (Below.refl _ _)
  simp only [zD, zE, zF]
  refine obs_step (Eq.trans (by simp only [zA, zB, zC]; exact rfl) rfl) rfl (fun w' hS hV K hK => ?_) ?_
  · have e11 : x 11 = (.bool true) := hV 11 (by decide)
    have e18 : x 18 = (.bool true) := hV 18 (by decide)
    have q2 := hS.1; obtain ⟨q0, q1⟩ := hS.2.1.two
    go_simp
    exact hK.out _ _ _ rfl rfl rfl (Below.refl _ _)
  simp only [zD, zE, zF]
  refine obs_step (Eq.trans (by simp only [zA, zB, zC]; exact rfl) rfl) rfl (fun w' hS hV K hK => ?_) ?_
  · have e19 : x 19 = (.bool true) := hV 19 (by decide)
    have q2 := hS.1; obtain ⟨q0, q1⟩ := hS.2.1.two
    go_simp
    exact hK.out _ _ _ rfl rfl rfl (Below.refl _ _)
  simp only [zD, zE, zF]
  refine fun w' hS hV => ?_
  have e0 : x 0 = (.agg #[.int .i64 P, .slice A m c]) := hV 0 (by decide)
  have e1 : x 1 = (.int .i64 (P)) := hV 1 (by decide)
  have e2 : x 2 = (.slice (some ⟨g, o, none⟩) m d) := hV 2 (by decide)
  have e3 : x 3 = (.bool true) := hV 3 (by decide)
  have e4 : x 4 = (.bool true) := hV 4 (by decide)
  have e5 : x 5 = (.slice (some ⟨g, o, none⟩) m d) := hV 5 (by decide)
  have e6 : x 6 = (.int .i64 (m)) := hV 6 (by decide)
  have e7 : x 7 = (.agg #[.int .i64 P, .slice A m c]) := hV 7 (by decide)
  have e8 : x 8 = (.int .i64 (m)) := hV 8 (by decide)
  have e9 : x 9 = (.bool true) := hV 9 (by decide)
  have e10 : x 10 = (.bool true) := hV 10 (by decide)
  have e11 : x 11 = (.bool true) := hV 11 (by decide)
  have e12 : x 12 = (.slice (some ⟨g, o, none⟩) m d) := hV 12 (by decide)
  have e13 : x 13 = (.pointer (some ⟨g, o, none⟩)) := hV 13 (by decide)
  have e14 : x 14 = (.slice A0 m c0) := hV 14 (by decide)
  have e15 : x 15 = (.int .i64 (m)) := hV 15 (by decide)
  have e16 : x 16 = (.agg #[.int .i64 P, .slice A m c]) := hV 16 (by decide)
  have e17 : x 17 = (.int .i64 (m)) := hV 17 (by decide)
  have e18 : x 18 = (.bool true) := hV 18 (by decide)
  have e19 : x 19 = (.bool true) := hV 19 (by decide)
  have e20 : x 20 = (.bool true) := hV 20 (by decide)
  simp only [e0, e1, e2, e3, e4, e5, e6, e7, e8, e9, e10, e11, e12, e13, e14, e15, e16, e17, e18, e19, e20]
  clear e0 e1 e2 e3 e4 e5 e6 e7 e8 e9 e10 e11 e12 e13 e14 e15 e16 e17 e18 e19 e20
  refine wpAny_done (by kernel_rfl) ?_ _
  have hb9 := hS.2.2
  go_wp2
  go_ret
  exact ⟨rfl, hb9⟩
theorem isFrame_any (P : Int) (A : Option Addr) (n c : Nat) (sq : List Int) (D : Option Addr) (r d : Nat) (M : List (List Int)) (m : Nat) (w : World) (hp0 : 0 < P) (hp1 : P ≤ 13) (hr0 : 0 < r) (hr : r ≤ 16) (hm1 : 1 ≤ m) (hm : m ≤ 16) (hd : RdII w D r M) (hM : Rect m M) :
    Calls Tryz.prog 321 #[.agg #[.int .i64 P, .slice A n c], .slice D r d] w fun e w' => e = .returned (.bool (frB P n M)) ∧ Below w.heap.size w w' := by
  have hl := hd.len
  have e := frB_rect (P := P) (n := n) hM (by omega)
  rw [hl] at e
  rw [e]
  cases hb : (M.all fun r => nums P r)
  · exact isFrame_0 P A n c sq D r d M m w hp0 hp1 hr0 hr hm1 hm hd hM hb
  · by_cases h1 : r = n
    · by_cases h2 : m = n
      · rw [decide_eq_true h1, decide_eq_true h2]; exact isFrame_3 P A n c sq D r d M m w hp0 hp1 hr0 hr hm1 hm hd hM hb h1 h2
      · rw [decide_eq_true h1, decide_eq_false h2]; exact isFrame_2 P A n c sq D r d M m w hp0 hp1 hr0 hr hm1 hm hd hM hb h1 h2
    · rw [decide_eq_false h1]; exact isFrame_1 P A n c sq D r d M m w hp0 hp1 hr0 hr hm1 hm hd hM hb h1
set_option maxHeartbeats 1600000 in
set_option maxRecDepth 8000 in
theorem checkFrame_any (P : Int) (A : Option Addr) (n c : Nat) (sq : List Int) (D : Option Addr) (r d : Nat) (M : List (List Int)) (m : Nat) (w : World) (hr0 : 0 < r) (hr : r ≤ 16) (hm1 : 1 ≤ m) (hm : m ≤ 16) (hn : n ≤ 1048576) (ha : Rd w A n (ints sq)) (hd : RdII w D r M) (hM : Rect m M) :
    Calls Tryz.prog 139 #[.agg #[.int .i64 P, .slice A n c], .slice D r d] w fun e w' => e = .returned (.int .i64 (codeF P sq M)) ∧ Below w.heap.size w w' := by
  have hB0 : Below w.heap.size w (w.alloc (.cells #[.int .i64 P, .slice A n c] 26)) := (Below.refl _ _).alloc (Nat.le_refl _) _
  have k0 : Blk (w.alloc (.cells #[.int .i64 P, .slice A n c] 26)) w.heap.size 26 #[.int .i64 P, .slice A n c] := Blk.new _ _ _
  have hsl := ha.lenI
  have his := IsSpace_any P A n c sq (w.alloc (.cells #[.int .i64 P, .slice A n c] 26)) (by omega) (ha.below hB0)
  have hrg := Lib.hid fun w' (h : Below w.heap.size w w') => regular_any P A n c sq w' (by omega) (ha.below h)
  by_cases h1 : isSp P sq = true
  · obtain ⟨HP, hd1, hd2, hnum⟩ := isSp_dim h1
    obtain ⟨hp3, hp2⟩ := isP_ge HP
    have hfr := Lib.hid fun w' (h : Below w.heap.size w w') => isFrame_any P A n c sq D r d M m w' (by omega) hp2 hr0 hr hm1 hm (hd.below h) hM
    have HC : Hid (codeF P sq M = if frB P n M then (if regB sq then 0 else 5) else 2) := Lib.hid (by unfold codeF; rw [if_pos h1, hsl])
    rw [h1] at his
    cases hf : frB P n M
    · rw [hf] at hfr HC
      obtain ⟨V, hV⟩ : ∃ V, V = codeF P sq M := ⟨_, rfl⟩
      rw [← hV] at HC ⊢
      obtain rfl : V = 2 := by rw [HC.out]; rfl
      clear hV HC h1 hM hd hsl hnum HP hf
      go_enter Tryz.func139, Tryz.ntmps139
      obtain ⟨q0, q1⟩ := k0.two
      go_wp2_with fail
      refine his.mono ?_
      rintro e w2 ⟨rfl, hb2⟩
      have hB2 := hB0.trans (hb2.mono hB0.size)
      have k2 := k0.below hb2 k0.lt
      clear q0 q1
      obtain ⟨q0, q1⟩ := k2.two
      go_wp2_with fail
      refine (hfr.out w2 hB2).mono ?_
      rintro e w3 ⟨rfl, hb3⟩
      have hB3 := hB2.trans (hb3.mono hB2.size)
      have k3 := k2.below hb3 k2.lt
      clear q0 q1
      go_wp2
      go_ret
      exact ⟨rfl, hB3⟩
    · rw [hf] at hfr HC
      cases hg : regB sq
      · rw [hg] at hrg HC
        obtain ⟨V, hV⟩ : ∃ V, V = codeF P sq M := ⟨_, rfl⟩
        rw [← hV] at HC ⊢
        obtain rfl : V = 5 := by rw [HC.out]; rfl
        clear hV HC h1 hM hd hsl hnum HP hf hg
        go_enter Tryz.func139, Tryz.ntmps139
        obtain ⟨q0, q1⟩ := k0.two
        go_wp2_with fail
        refine his.mono ?_
        rintro e w2 ⟨rfl, hb2⟩
        have hB2 := hB0.trans (hb2.mono hB0.size)
        have k2 := k0.below hb2 k0.lt
        clear q0 q1
        obtain ⟨q0, q1⟩ := k2.two
        go_wp2_with fail
        refine (hfr.out w2 hB2).mono ?_
        rintro e w3 ⟨rfl, hb3⟩
        have hB3 := hB2.trans (hb3.mono hB2.size)
        have k3 := k2.below hb3 k2.lt
        clear q0 q1
        obtain ⟨q0, q1⟩ := k3.two
        go_wp2_with fail
        refine (hrg.out w3 hB3).mono ?_
        rintro e w4 ⟨rfl, hb4⟩
        have hB4 := hB3.trans (hb4.mono hB3.size)
        have k4 := k3.below hb4 k3.lt
        clear q0 q1
        go_wp2
        go_ret
        exact ⟨rfl, hB4⟩
      · rw [hg] at hrg HC
        obtain ⟨V, hV⟩ : ∃ V, V = codeF P sq M := ⟨_, rfl⟩
        rw [← hV] at HC ⊢
        obtain rfl : V = 0 := by rw [HC.out]; rfl
        clear hV HC h1 hM hd hsl hnum HP hf hg
        go_enter Tryz.func139, Tryz.ntmps139
        obtain ⟨q0, q1⟩ := k0.two
        go_wp2_with fail
        refine his.mono ?_
        rintro e w2 ⟨rfl, hb2⟩
        have hB2 := hB0.trans (hb2.mono hB0.size)
        have k2 := k0.below hb2 k0.lt
        clear q0 q1
        obtain ⟨q0, q1⟩ := k2.two
        go_wp2_with fail
        refine (hfr.out w2 hB2).mono ?_
        rintro e w3 ⟨rfl, hb3⟩
        have hB3 := hB2.trans (hb3.mono hB2.size)
        have k3 := k2.below hb3 k2.lt
        clear q0 q1
        obtain ⟨q0, q1⟩ := k3.two
        go_wp2_with fail
        refine (hrg.out w3 hB3).mono ?_
        rintro e w4 ⟨rfl, hb4⟩
        have hB4 := hB3.trans (hb4.mono hB3.size)
        have k4 := k3.below hb4 k3.lt
        clear q0 q1
        go_wp2
        go_ret
        exact ⟨rfl, hB4⟩
  · have h1' : isSp P sq = false := by simpa using h1
    have HC : codeF P sq M = 1 := by unfold codeF; rw [if_neg h1]
    rw [HC]
    rw [h1'] at his
    clear HC h1 h1' hM hd hsl hrg
    go_enter Tryz.func139, Tryz.ntmps139
    obtain ⟨q0, q1⟩ := k0.two
    go_wp2_with fail
    refine his.mono ?_
    rintro e w2 ⟨rfl, hb2⟩
    have hB2 := hB0.trans (hb2.mono hB0.size)
    have k2 := k0.below hb2 k0.lt
    clear q0 q1
    go_wp2
    go_ret
    exact ⟨rfl, hB2⟩
set_option maxHeartbeats 1600000 in
set_option maxRecDepth 8000 in
theorem l02Is_any (p : Int) (A : Option Addr) (n c : Nat) (M : List (List Int)) (m : Nat) (w : World) (HP : isP p = true) (hn0 : 0 < n) (hn : n ≤ 16) (hm1 : 1 ≤ m) (hm : m ≤ 16) (ha : RdII w A n M) (hT : Rect m M) :
    Calls Tryz.prog 323 #[.int .i64 p, .slice A n c] w fun e w' => e = .returned (.bool (M.all fun r => nums p r)) ∧ Below w.heap.size w w' := by
  have HT := Lib.hid hT
  have HLN := Lib.hid ha.len
  have t1 : decide ((n : Int) < 1) = false := by simp; omega
  have t2 : decide ((16 : Int) < (n : Int)) = false := by simp; omega
  have t5 : decide ((m : Int) < 1) = false := by simp; omega
  have t3 : decide ((16 : Int) < (m : Int)) = false := by simp; omega
  have t4 : ((m : Int) != (m : Int)) = false := by simp
  have hpr := l01Prime_any p w
  rw [HP] at hpr
  obtain ⟨R, hR⟩ : ∃ b, b = M.all fun r => nums p r := ⟨_, rfl⟩
  rw [← hR]
  have HR := Lib.hid hR
  obtain ⟨g, o, rfl, hx0, A0, c0, hc00, -, -⟩ := ha.at_ hn0
  rw [HT.out M[0] (List.getElem_mem hx0), Nat.add_zero] at hc00
  have HA := Lib.hid ha
  obtain ⟨hp3, hp2⟩ := isP_ge HP
  have hc0 := hc00
  clear hT hR ha hx0 HP
  go_enter Tryz.func323, Tryz.ntmps323
  go_wp2_with fail
  refine hpr.mono ?_
  rintro e w1 ⟨rfl, rfl⟩
  clear hpr
  go_wp2
  go_loopw [5] (fun i wr => ∃ k : Nat, k ≤ n ∧ i = .int .i64 k ∧ Below w.heap.size w wr ∧ Hid (((M.take k).all fun r => nums p r) = true)) (fun i _ => n - (intOf i).toNat)
  case atStart => exact ⟨0, by omega, rfl, Below.refl _ _, Lib.hid (by simp)⟩
  case round =>
    obtain ⟨k, hk, rfl, hBw, HK⟩ := hrel
    clear hc0
    by_cases hlt : k < n
    · obtain ⟨g', o', e', hxk, A1, c1, hc1, hr1, -⟩ := (HA.out.below hBw).at_ hlt
      cases e'
      have hc0 := (hBw.cell (World.block_lt_of_cell? _ _ hc00)).trans hc00
      have l1 := HT.out M[k] (List.getElem_mem hxk)
      rw [l1] at hc1 hr1
      obtain ⟨b, hb⟩ : ∃ b, b = nums p M[k] := ⟨_, rfl⟩
      have HIS := Lib.hid fun (w' : World) (h : Below wr.heap.size wr w') => l01Numbers_any p A1 m c1 M[k] w' (by omega) (by omega) (by omega) (hr1.below h)
      rw [← hb] at HIS
      have HB : Hid ((b = true → ((M.take (k + 1)).all fun r => nums p r) = true) ∧ (b = false → (M.all fun r => nums p r) = false)) := Lib.hid ⟨fun h => all_takeR hxk HK.out (by rw [← hb, h]), fun h => all_stop hxk (by rw [← hb, h])⟩
      clear hr1 l1 hb hxk
      go_wp2
      refine wp_obs 19 [[], [], [0, 1], [0, 1, 2], [0, 1, 2, 3], [], [5], [5, 6], [5, 6, 7], [0, 1, 2, 3, 4, 5, 6, 7, 8], [0, 1, 2, 3, 4, 5, 6, 7, 8, 9], [0, 1, 2, 3, 4, 5, 6, 7, 8, 9, 10], [0, 1, 2, 3, 4, 5, 6, 7, 8, 9, 10], [0, 1, 2, 3, 4, 5, 6, 7, 8, 9, 10], [0, 1, 2, 3, 4, 5, 6, 7, 8, 9, 10, 12, 13], [0, 1, 2, 3, 4, 5, 6, 7, 8, 9, 10, 12, 13, 14], [0, 1, 2, 3, 4, 5, 6, 7, 8, 9, 10, 11, 12, 13, 14, 15], [0, 1, 2, 3, 4, 5, 6, 7, 8, 9, 10, 11, 12, 13, 14, 15, 16], [0, 1, 2, 3, 4, 5, 6, 7, 8, 9, 10, 11, 12, 13, 14, 15, 16, 17]] [VIs (.slice (some ⟨g, o, none⟩) n c), VIs (.int .i64 (k)), VIs (.pointer (some ⟨g, o + k, none⟩)), VIs (.slice A1 m c1), VIs (.int .i64 (m)), VIs (.slice (some ⟨g, o, none⟩) n c), VIs (.pointer (some ⟨g, o, none⟩)), VIs (.slice A0 m c0), VIs (.int .i64 (m)), VIs (.bool false), VIs (.bool false), VIs (.int .i64 (p)), VIs (.slice (some ⟨g, o, none⟩) n c), VIs (.int .i64 (k)), VIs (.pointer (some ⟨g, o + k, none⟩)), VIs (.slice A1 m c1), VIs (.bool b), VIs (.bool !b), VIs (.bool !b)] (fun w' => w'.cell? ⟨g, o + k, none⟩ = some (.slice A1 m c1) ∧ w'.cell? ⟨g, o, none⟩ = some (.slice A0 m c0) ∧ Below wr.heap.size wr w') (by kernel_rfl) (by kernel_rfl) (fun _ _ h hb => ⟨(hb.cell (World.block_lt_of_cell? _ _ h.1)).trans h.1, (hb.cell (World.block_lt_of_cell? _ _ h.2.1)).trans h.2.1, h.2.2.trans (hb.mono h.2.2.size)⟩) (⟨hc1, hc0, (Below.refl _ _).drew⟩) (fun x => ?_)
      refine obs_step (Eq.trans (by simp only [zA, zC]; exact rfl) rfl) rfl (fun w' hS hV K hK => ?_) ?_
      · have q0 := hS.1; have q1 := hS.2.1
        go_simp
        exact hK.out _ _ _ rfl rfl rfl (Below.refl _ _)
      simp only [zD, zE, zF]
      refine obs_step (Eq.trans (by simp only [zA, zB, zC]; exact rfl) rfl) rfl (fun w' hS hV K hK => ?_) ?_
      · have q0 := hS.1; have q1 := hS.2.1
        go_simp
        exact hK.out _ _ _ rfl rfl rfl (Below.refl _ _)
      simp only [zD, zE, zF]
      refine obs_step (Eq.trans (by simp only [zA, zB, zC]; exact rfl) rfl) rfl (fun w' hS hV K hK => ?_) ?_
      · have e0 : x 0 = (.slice (some ⟨g, o, none⟩) n c) := hV 0 (by decide)
        have e1 : x 1 = (.int .i64 (k)) := hV 1 (by decide)
        have q0 := hS.1; have q1 := hS.2.1
        go_simp
        exact hK.out _ _ _ rfl rfl rfl (Below.refl _ _)
      simp only [zD, zE, zF]
      refine obs_step (Eq.trans (by simp only [zA, zB, zC]; exact rfl) rfl) rfl (fun w' hS hV K hK => ?_) ?_
      · have e2 : x 2 = (.pointer (some ⟨g, o + k, none⟩)) := hV 2 (by decide)
        have q0 := hS.1; have q1 := hS.2.1
        go_simp
        exact hK.out _ _ _ rfl rfl rfl (Below.refl _ _)
      simp only [zD, zE, zF]
      refine obs_step (Eq.trans (by simp only [zA, zB, zC]; exact rfl) rfl) rfl (fun w' hS hV K hK => ?_) ?_
      · have e3 : x 3 = (.slice A1 m c1) := hV 3 (by decide)
        have q0 := hS.1; have q1 := hS.2.1
        go_simp
        exact hK.out _ _ _ rfl rfl rfl (Below.refl _ _)
      simp only [zD, zE, zF]
      refine obs_step (Eq.trans (by simp only [zA, zB, zC]; exact rfl) rfl) rfl (fun w' hS hV K hK => ?_) ?_
      · have q0 := hS.1; have q1 := hS.2.1
        go_simp
        exact hK.out _ _ _ rfl rfl rfl (Below.refl _ _)
      simp only [zD, zE, zF]
      refine obs_step (Eq.trans (by simp only [zA, zB, zC]; exact rfl) rfl) rfl (fun w' hS hV K hK => ?_) ?_
      · have e5 : x 5 = (.slice (some ⟨g, o, none⟩) n c) := hV 5 (by decide)
        have q0 := hS.1; have q1 := hS.2.1
        go_simp
        exact hK.out _ _ _ rfl rfl rfl (Below.refl _ _)
      simp only [zD, zE, zF]
      refine obs_step (Eq.trans (by simp only [zA, zB, zC]; exact rfl) rfl) rfl (fun w' hS hV K hK => ?_) ?_
      · have e6 : x 6 = (.pointer (some ⟨g, o, none⟩)) := hV 6 (by decide)
        have q0 := hS.1; have q1 := hS.2.1
        go_simp
        exact hK.out _ _ _ rfl rfl rfl (Below.refl _ _)
      simp only [zD, zE, zF]
      refine obs_step (Eq.trans (by simp only [zA, zB, zC]; exact rfl) rfl) rfl (fun w' hS hV K hK => ?_) ?_
      · have e7 : x 7 = (.slice A0 m c0) := hV 7 (by decide)
        have q0 := hS.1; have q1 := hS.2.1
        go_simp
        exact hK.out _ _ _ rfl rfl rfl (Below.refl _ _)
      simp only [zD, zE, zF]
      refine obs_step (Eq.trans (by simp only [zA, zB, zC]; exact rfl) rfl) rfl (fun w' hS hV K hK => ?_) ?_
      · have e4 : x 4 = (.int .i64 (m)) := hV 4 (by decide)
        have e8 : x 8 = (.int .i64 (m)) := hV 8 (by decide)
        have q0 := hS.1; have q1 := hS.2.1
        go_simp
        exact hK.out _ _ _ rfl rfl rfl (Below.refl _ _)
      simp only [zD, zE, zF]
      refine obs_step (Eq.trans (by simp only [zA, zB, zC]; exact rfl) rfl) rfl (fun w' hS hV K hK => ?_) ?_
      · have e9 : x 9 = (.bool false) := hV 9 (by decide)
        have q0 := hS.1; have q1 := hS.2.1
        go_simp
        exact hK.out _ _ _ rfl rfl rfl (Below.refl _ _)
      simp only [zD, zE, zF]
      refine obs_step (Eq.trans (by simp only [zA, zB, zC]; exact rfl) rfl) rfl (fun w' hS hV K hK => ?_) ?_
      · have e10 : x 10 = (.bool false) := hV 10 (by decide)
        have q0 := hS.1; have q1 := hS.2.1
        go_simp
        exact hK.out _ _ _ rfl rfl rfl (Below.refl _ _)
      simp only [zD, zE, zF]
      refine obs_step (Eq.trans (by simp only [zA, zB, zC]; exact rfl) rfl) rfl (fun w' hS hV K hK => ?_) ?_
      · have e10 : x 10 = (.bool false) := hV 10 (by decide)
        have q0 := hS.1; have q1 := hS.2.1
        go_simp
        exact hK.out _ _ _ rfl rfl rfl (Below.refl _ _)
      simp only [zD, zE, zF]
      refine obs_step (Eq.trans (by simp only [zA, zB, zC]; exact rfl) rfl) rfl (fun w' hS hV K hK => ?_) ?_
      · have e10 : x 10 = (.bool false) := hV 10 (by decide)
        have q0 := hS.1; have q1 := hS.2.1
        go_simp
        exact hK.out _ _ _ rfl rfl rfl (Below.refl _ _)
      simp only [zD, zE, zF]
      refine obs_step (Eq.trans (by simp only [zA, zB, zC]; exact rfl) rfl) rfl (fun w' hS hV K hK => ?_) ?_
      · have e10 : x 10 = (.bool false) := hV 10 (by decide)
        have e12 : x 12 = (.slice (some ⟨g, o, none⟩) n c) := hV 12 (by decide)
        have e13 : x 13 = (.int .i64 (k)) := hV 13 (by decide)
        have q0 := hS.1; have q1 := hS.2.1
        go_simp
        exact hK.out _ _ _ rfl rfl rfl (Below.refl _ _)
      simp only [zD, zE, zF]
      refine obs_step (Eq.trans (by simp only [zA, zB, zC]; exact rfl) rfl) rfl (fun w' hS hV K hK => ?_) ?_
      · have e10 : x 10 = (.bool false) := hV 10 (by decide)
        have e14 : x 14 = (.pointer (some ⟨g, o + k, none⟩)) := hV 14 (by decide)
        have q0 := hS.1; have q1 := hS.2.1
        go_simp
        exact hK.out _ _ _ rfl rfl rfl (Below.refl _ _)
      simp only [zD, zE, zF]
      refine obs_step (Eq.trans (by simp only [zA, zB, zC]; exact rfl) rfl) rfl (fun w' hS hV K hK => ?_) ?_
      · have e10 : x 10 = (.bool false) := hV 10 (by decide)
        have e11 : x 11 = (.int .i64 (p)) := hV 11 (by decide)
        have e15 : x 15 = (.slice A1 m c1) := hV 15 (by decide)
        have q0 := hS.1; have q1 := hS.2.1
        go_simp
        refine (HIS.out _ hS.2.2).mono ?_
        rintro e v1 ⟨rfl, rfl⟩
        exact hK.out _ _ _ rfl rfl rfl (Below.refl _ _)
      simp only [zD, zE, zF]
      refine obs_step (Eq.trans (by simp only [zA, zB, zC]; exact rfl) rfl) rfl (fun w' hS hV K hK => ?_) ?_
      · have e10 : x 10 = (.bool false) := hV 10 (by decide)
        have e16 : x 16 = (.bool b) := hV 16 (by decide)
        have q0 := hS.1; have q1 := hS.2.1
        go_simp
        exact hK.out _ _ _ rfl rfl rfl (Below.refl _ _)
      simp only [zD, zE, zF]
      refine obs_step (Eq.trans (by simp only [zA, zB, zC]; exact rfl) rfl) rfl (fun w' hS hV K hK => ?_) ?_
      · have e10 : x 10 = (.bool false) := hV 10 (by decide)
        have e17 : x 17 = (.bool !b) := hV 17 (by decide)
        have q0 := hS.1; have q1 := hS.2.1
        go_simp
        exact hK.out _ _ _ rfl rfl rfl (Below.refl _ _)
      simp only [zD, zE, zF]
      refine fun w' hS hV => ?_
      have e0 : x 0 = (.slice (some ⟨g, o, none⟩) n c) := hV 0 (by decide)
      have e1 : x 1 = (.int .i64 (k)) := hV 1 (by decide)
      have e2 : x 2 = (.pointer (some ⟨g, o + k, none⟩)) := hV 2 (by decide)
      have e3 : x 3 = (.slice A1 m c1) := hV 3 (by decide)
      have e4 : x 4 = (.int .i64 (m)) := hV 4 (by decide)
      have e5 : x 5 = (.slice (some ⟨g, o, none⟩) n c) := hV 5 (by decide)
      have e6 : x 6 = (.pointer (some ⟨g, o, none⟩)) := hV 6 (by decide)
      have e7 : x 7 = (.slice A0 m c0) := hV 7 (by decide)
      have e8 : x 8 = (.int .i64 (m)) := hV 8 (by decide)
      have e9 : x 9 = (.bool false) := hV 9 (by decide)
      have e10 : x 10 = (.bool false) := hV 10 (by decide)
      have e11 : x 11 = (.int .i64 (p)) := hV 11 (by decide)
      have e12 : x 12 = (.slice (some ⟨g, o, none⟩) n c) := hV 12 (by decide)
      have e13 : x 13 = (.int .i64 (k)) := hV 13 (by decide)
      have e14 : x 14 = (.pointer (some ⟨g, o + k, none⟩)) := hV 14 (by decide)
      have e15 : x 15 = (.slice A1 m c1) := hV 15 (by decide)
      have e16 : x 16 = (.bool b) := hV 16 (by decide)
      have e17 : x 17 = (.bool !b) := hV 17 (by decide)
      have e18 : x 18 = (.bool !b) := hV 18 (by decide)
      simp only [e0, e1, e2, e3, e4, e5, e6, e7, e8, e9, e10, e11, e12, e13, e14, e15, e16, e17, e18]
      clear e0 e1 e2 e3 e4 e5 e6 e7 e8 e9 e10 e11 e12 e13 e14 e15 e16 e17 e18
      refine wpAny_done (by kernel_rfl) ?_ _
      have hB5 := hBw.trans (hS.2.2.mono hBw.size)
      clear hS hBw hc1 hc0
      cases b
      · obtain rfl : R = false := by rw [HR.out, HB.out.2 rfl]
        clear HB
        go_wp2
        go_ret
        exact ⟨rfl, hB5⟩
      · have HB1 := Lib.hid (HB.out.1 rfl)
        clear HB
        go_wp2
        go_roundw
        case rel => exact ⟨k + 1, by omega, by go_num, hB5, HB1⟩
        case measure => simp [intOf]; omega
    · obtain rfl : k = n := by omega
      have hr := HK.out
      rw [List.take_of_length_le (by rw [HLN.out]; omega)] at hr
      obtain rfl : R = true := HR.out.trans hr
      clear hr
      go_wp2
      go_ret
      exact ⟨rfl, hBw⟩
set_option maxHeartbeats 3200000 in
set_option maxRecDepth 8000 in
theorem l10Shape_any (P : Int) (A : Option Addr) (n c : Nat) (sq : List Int) (D : Option Addr) (r d : Nat) (M : List (List Int)) (m : Nat) (w : World) (hr0 : 0 < r) (hr : r ≤ 16) (hm1 : 1 ≤ m) (hm : m ≤ 16) (hn : n ≤ 1048576) (ha : Rd w A n (ints sq)) (hd : RdII w D r M) (hM : Rect m M) :
    Calls Tryz.prog 142 #[.agg #[.int .i64 P, .slice A n c], .slice D r d] w fun e w' => e = .returned (.int .i64 (codeF P sq M)) ∧ Below w.heap.size w w' := by
  have hB0 : Below w.heap.size w (w.alloc (.cells #[.int .i64 P, .slice A n c] 26)) := (Below.refl _ _).alloc (Nat.le_refl _) _
  have k0 : Blk (w.alloc (.cells #[.int .i64 P, .slice A n c] 26)) w.heap.size 26 #[.int .i64 P, .slice A n c] := Blk.new _ _ _
  have hsl := ha.lenI
  have HMR := Lib.hid hM
  have his := l03Is_any P A n c sq (w.alloc (.cells #[.int .i64 P, .slice A n c] 26)) (by omega) (ha.below hB0)
  by_cases h1 : isSp P sq = true
  · obtain ⟨HP, hd1, hd2, hnum⟩ := isSp_dim h1
    obtain ⟨hp3, hp2⟩ := isP_ge HP
    rw [hsl] at hd1 hd2
    have hfr := Lib.hid fun w' (h : Below w.heap.size w w') => l02Is_any P D r d M m w' HP hr0 hr hm1 hm (hd.below h) hM
    have hdi := Lib.hid fun w' (h : Below w.heap.size w w') => l03Disc_any P A n c sq w' (by omega) hp2 (by omega) (ha.below h) (nums_numsL hnum)
    have e := frB_rect (P := P) (n := n) hM (by have := hd.len; omega)
    rw [hd.len] at e
    rw [h1] at his
    cases hb : (M.all fun r => nums P r)
    · have hf : frB P n M = false := by rw [e, hb]; rfl
      rw [hb] at hfr
      have hC2 : codeF P sq M = 2 := by unfold codeF; rw [if_pos h1, hsl, hf]; rfl
      rw [hC2]
      clear hC2 h1 hM hsl hnum HP hf hdi
      clear e hb
      go_enter Tryz.func142, Tryz.ntmps142
      obtain ⟨q0, q1⟩ := k0.two
      go_wp2_with fail
      refine his.mono ?_
      rintro e w2 ⟨rfl, hb2⟩
      have hB2 := hB0.trans (hb2.mono hB0.size)
      have k2 := k0.below hb2 k0.lt
      clear q0 q1
      obtain ⟨q0, q1⟩ := k2.two
      go_wp2_with fail
      refine (hfr.out w2 hB2).mono ?_
      rintro e w3 ⟨rfl, hb3⟩
      have hB3 := hB2.trans (hb3.mono hB2.size)
      have k3 := k2.below hb3 k2.lt
      clear q0 q1
      obtain ⟨g, o, rfl, hx0, A0, c0, hc0, -, -⟩ := (hd.below hB3).at_ hr0
      rw [HMR.out M[0] (List.getElem_mem hx0), Nat.add_zero] at hc0
      clear hd hx0
      obtain ⟨q0, q1⟩ := k3.two
      go_wp2
      go_ret
      exact ⟨rfl, hB3⟩
    · rw [hb] at hfr
      by_cases h2 : r = n
      · by_cases h3 : m = n
        · have hf : frB P n M = true := by rw [e, hb, decide_eq_true h2, decide_eq_true h3]; rfl
          have HC : Hid (codeF P sq M = if regB sq then 0 else 5) := Lib.hid (by unfold codeF; rw [if_pos h1, hsl, hf]; rfl)
          have t1 : ((r : Int) != (n : Int)) = false := by rw [h2]; simp
          have t2 : ((m : Int) != (r : Int)) = false := by rw [h2, h3]; simp
          have hdr := disc_reg HP (nums_numsL hnum)
          rw [hsl] at hdr
          obtain ⟨z, hz⟩ : ∃ z, z = discT P sq n := ⟨_, rfl⟩
          rw [← hz] at hdr hdi
          obtain ⟨b, hb2⟩ : ∃ b, b = regB sq := ⟨_, rfl⟩
          rw [← hb2] at hdr HC
          have HDR := Lib.hid hdr
          clear hdr hz hb2
          obtain ⟨V, hV⟩ : ∃ V, V = codeF P sq M := ⟨_, rfl⟩
          rw [← hV] at HC ⊢
          clear hV h1 hM hsl hnum HP hf e hb h2 h3
          go_enter Tryz.func142, Tryz.ntmps142
          obtain ⟨q0, q1⟩ := k0.two
          go_wp2_with fail
          refine his.mono ?_
          rintro e w2 ⟨rfl, hb2⟩
          have hB2 := hB0.trans (hb2.mono hB0.size)
          have k2 := k0.below hb2 k0.lt
          clear q0 q1
          obtain ⟨q0, q1⟩ := k2.two
          go_wp2_with fail
          refine (hfr.out w2 hB2).mono ?_
          rintro e w3 ⟨rfl, hb3⟩
          have hB3 := hB2.trans (hb3.mono hB2.size)
          have k3 := k2.below hb3 k2.lt
          clear q0 q1
          obtain ⟨g, o, rfl, hx0, A0, c0, hc0, -, -⟩ := (hd.below hB3).at_ hr0
          rw [HMR.out M[0] (List.getElem_mem hx0), Nat.add_zero] at hc0
          clear hd hx0
          obtain ⟨q0, q1⟩ := k3.two
          go_wp2_with fail
          refine (hdi.out w3 hB3).mono ?_
          rintro e w4 ⟨rfl, hb4⟩
          have hB4 := hB3.trans (hb4.mono hB3.size)
          cases b
          · have e1 : (z == 0) = true := HDR.out
            obtain rfl : V = 5 := by rw [HC.out]; rfl
            go_wp2
            go_ret
            exact ⟨rfl, hB4⟩
          · have e1 : (z == 0) = false := HDR.out
            obtain rfl : V = 0 := by rw [HC.out]; rfl
            go_wp2
            go_ret
            exact ⟨rfl, hB4⟩
        · have hf : frB P n M = false := by rw [e, hb, decide_eq_true h2, decide_eq_false h3]; rfl
          have t1 : ((r : Int) != (n : Int)) = false := by rw [h2]; simp
          have t2 : ((m : Int) != (r : Int)) = true := by rw [bne_iff_ne]; omega
          have hC2 : codeF P sq M = 2 := by unfold codeF; rw [if_pos h1, hsl, hf]; rfl
          rw [hC2]
          clear hC2 h1 hM hsl hnum HP hf hdi
          clear e hb h2 h3
          go_enter Tryz.func142, Tryz.ntmps142
          obtain ⟨q0, q1⟩ := k0.two
          go_wp2_with fail
          refine his.mono ?_
          rintro e w2 ⟨rfl, hb2⟩
          have hB2 := hB0.trans (hb2.mono hB0.size)
          have k2 := k0.below hb2 k0.lt
          clear q0 q1
          obtain ⟨q0, q1⟩ := k2.two
          go_wp2_with fail
          refine (hfr.out w2 hB2).mono ?_
          rintro e w3 ⟨rfl, hb3⟩
          have hB3 := hB2.trans (hb3.mono hB2.size)
          have k3 := k2.below hb3 k2.lt
          clear q0 q1
          obtain ⟨g, o, rfl, hx0, A0, c0, hc0, -, -⟩ := (hd.below hB3).at_ hr0
          rw [HMR.out M[0] (List.getElem_mem hx0), Nat.add_zero] at hc0
          clear hd hx0
          obtain ⟨q0, q1⟩ := k3.two
          go_wp2
          go_ret
          exact ⟨rfl, hB3⟩
      · have hf : frB P n M = false := by rw [e, hb, decide_eq_false h2]; rfl
        have t1 : ((r : Int) != (n : Int)) = true := by rw [bne_iff_ne]; omega
        have hC2 : codeF P sq M = 2 := by unfold codeF; rw [if_pos h1, hsl, hf]; rfl
        rw [hC2]
        clear hC2 h1 hM hsl hnum HP hf hdi
        clear e hb h2
        go_enter Tryz.func142, Tryz.ntmps142
        obtain ⟨q0, q1⟩ := k0.two
        go_wp2_with fail
        refine his.mono ?_
        rintro e w2 ⟨rfl, hb2⟩
        have hB2 := hB0.trans (hb2.mono hB0.size)
        have k2 := k0.below hb2 k0.lt
        clear q0 q1
        obtain ⟨q0, q1⟩ := k2.two
        go_wp2_with fail
        refine (hfr.out w2 hB2).mono ?_
        rintro e w3 ⟨rfl, hb3⟩
        have hB3 := hB2.trans (hb3.mono hB2.size)
        have k3 := k2.below hb3 k2.lt
        clear q0 q1
        obtain ⟨g, o, rfl, hx0, A0, c0, hc0, -, -⟩ := (hd.below hB3).at_ hr0
        rw [HMR.out M[0] (List.getElem_mem hx0), Nat.add_zero] at hc0
        clear hd hx0
        obtain ⟨q0, q1⟩ := k3.two
        go_wp2
        go_ret
        exact ⟨rfl, hB3⟩
  · have h1' : isSp P sq = false := by simpa using h1
    have HC : codeF P sq M = 1 := by unfold codeF; rw [if_neg h1]
    rw [HC]
    rw [h1'] at his
    clear HC h1 h1' hM hd hsl
    go_enter Tryz.func142, Tryz.ntmps142
    obtain ⟨q0, q1⟩ := k0.two
    go_wp2_with fail
    refine his.mono ?_
    rintro e w2 ⟨rfl, hb2⟩
    have hB2 := hB0.trans (hb2.mono hB0.size)
    have k2 := k0.below hb2 k0.lt
    clear q0 q1
    go_wp2
    go_ret
    exact ⟨rfl, hB2⟩
end Go.Proofs.YtdbibmilicjllaaGreat

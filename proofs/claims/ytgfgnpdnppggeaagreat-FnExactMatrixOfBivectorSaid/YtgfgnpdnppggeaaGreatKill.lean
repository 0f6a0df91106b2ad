/-
  KillingForm: both sides return the same.
-/
import Derived.Test.YtgfgnpdnppggeaaGreatTurn3
namespace Go.Proofs.YtgfgnpdnppggeaaGreat
open Go.RowKit

theorem timesM_row {p : Int} {n : Nat} {M N : List (List Int)} (h0 : 0 < n) (_hM : Tab p n M) (hN : Tab p n N) (hMl : M.length = n) (hNl : N.length = n) {i : Nat} (_hi : i < n) :
    applyL p (transL N) (M.getD i []) = tab n fun k => (sumTo n fun j => ent M i j * ent N j k) % p := by
  unfold applyL
  rw [transL_len hN (by omega)]
  refine tab_congr fun k hk => ?_
  have hrow : (transL N).getD k [] = tab n fun j => ent N j k := by
    unfold transL
    rw [(hN.row (show 0 < N.length by omega)).1, tab_getD hk [], hNl]
  rw [hrow]
  unfold dotL
  rw [tab_len]
  congr 1
  refine sumTo_congr fun j hj => ?_
  rw [tab_getD hj 0, Int.mul_comm]
  rfl

set_option maxHeartbeats 3200000 in
set_option maxRecDepth 8000 in
theorem l02Times_any (p : Int) (A : Option Addr) (n c : Nat) (M : List (List Int)) (B : Option Addr) (d : Nat) (N : List (List Int)) (w : World) (hp : 2 ≤ p) (hp2 : p ≤ 13) (h0 : 0 < n) (hn : n ≤ 65536) (ha : RdII w A n M) (hM : Tab p n M) (hb : RdII w B n N) (hN : Tab p n N) :
    Calls Tryz.prog 61 #[.int .i64 p, .slice A n c, .slice B n d] w fun e w' => ∃ A' c', e = .returned (.slice A' n c') ∧ MkII w w' A' n c' (timesM p M N) := by
  have HMT := Lib.hid hM
  have HNT := Lib.hid hN
  have HML := Lib.hid ha.len
  have HNL := Lib.hid hb.len
  have HROW : Hid (∀ i, i < n → applyL p (transL N) (M.getD i []) = tab n fun k => (sumTo n fun j => ent M i j * ent N j k) % p) := Lib.hid (fun i hi => timesM_row h0 hM hN ha.len hb.len hi)
  have hM0 : MkII w (w.alloc (.cells #[] 22)) (some ⟨w.heap.size, 0, none⟩) 0 0 [] := MkII.empty (Below.refl _ _)
  obtain ⟨g, o, rfl, _⟩ := ha.at_ h0
  obtain ⟨g3, o3, rfl, _⟩ := hb.at_ h0
  clear hM hN
  go_enter Tryz.func61, Tryz.ntmps61
  go_wp2
  obtain ⟨w1, hw1⟩ : ∃ W, W = w.alloc (.cells #[] 22) := ⟨_, rfl⟩
  rw [← hw1] at hM0 ⊢
  clear hw1
  go_loopw [7, 8] (fun out i wr => ∃ (i' : Nat) (A' : Option Addr) (c' : Nat), i' ≤ n ∧ i = .int .i64 i' ∧ out = .slice A' i' c' ∧ MkII w wr A' i' c' (tab i' fun i => applyL p (transL N) (M.getD i []))) (fun _ i _ => n - (intOf i).toNat)
  case atStart => exact ⟨0, _, _, by omega, rfl, rfl, by simpa [tab] using hM0⟩
  case round =>
    obtain ⟨i, A', c', hi, rfl, rfl, hM⟩ := hrel
    clear hM0
    obtain ⟨wo, rfl⟩ : ∃ W, W = wr := ⟨_, rfl⟩
    by_cases hlt : i < n
    · have hr0 := Mk.lit (E := 2) (Below.refl wo.heap.size wo) #[] (by simp)
      have hR0 : MkI wo (wo.alloc (.cells #[] 2)) (some ⟨wo.heap.size, 0, none⟩) 0 0 [] := by simpa [MkI, ints] using hr0
      have HM := Lib.hid hM
      clear hr0 hM
      go_wp2
      go_loopw [9, 10] (fun row k w2 => ∃ (k' : Nat) (A2 : Option Addr) (c2 : Nat), k' ≤ n ∧ k = .int .i64 k' ∧ row = .slice A2 k' c2 ∧ MkI wo w2 A2 k' c2 (tab k' fun k => (sumTo n fun j => ent M i j * ent N j k) % p)) (fun _ k _ => n - (intOf k).toNat)
      case atStart => exact ⟨0, _, _, by omega, rfl, rfl, by simpa [tab] using hR0⟩
      case round =>
        obtain ⟨k, A2, c2, hk, rfl, rfl, hR⟩ := hrel
        clear hR0
        obtain ⟨wm, rfl⟩ : ∃ W, W = wr := ⟨_, rfl⟩
        have hbb := HM.out.b.trans (hR.b.mono HM.out.b.size)
        obtain ⟨A0, c0, hcx0⟩ := (hb.below hbb).row0 h0 HNT.out
        have HR := Lib.hid hR
        by_cases hlk : k < n
        · have ha2 := ha.below hbb
          have hb2 := hb.below hbb
          clear hR hbb ha hb
          go_wp2
          clear hcx0
          go_loopw [11, 12] (fun s j w3 => ∃ j' : Nat, j' ≤ n ∧ j = .int .i64 j' ∧ s = .int .i64 ((sumTo j' fun j => ent M i j * ent N j k) % p) ∧ Below wm.heap.size wm w3) (fun _ j _ => n - (intOf j).toNat)
          case atStart => exact ⟨0, by omega, rfl, by simp [sumTo], Below.refl _ _⟩
          case round =>
            obtain ⟨j, hj, rfl, rfl, hB3⟩ := hrel
            have hstep := Lib.hid (sumTo_step p j fun j => ent M i j * ent N j k)
            have s1 := Int.emod_nonneg (sumTo j fun j => ent M i j * ent N j k) (show p ≠ 0 by omega)
            have s2 := Int.emod_lt_of_pos (sumTo j fun j => ent M i j * ent N j k) (show 0 < p by omega)
            have hend : Hid (j = n → (sumTo n fun j => ent M i j * ent N j k) % p = (sumTo j fun j => ent M i j * ent N j k) % p) := Lib.hid (fun h => by rw [h])
            obtain ⟨s, hs⟩ : ∃ s, s = (sumTo j fun j => ent M i j * ent N j k) % p := ⟨_, rfl⟩
            rw [← hs] at s1 s2 hstep hend ⊢
            clear hs
            by_cases hlj : j < n
            · obtain ⟨g', o', e', hxi, A1, c1, hcx1, hr1, _⟩ := (ha2.below hB3).at_ hlt
              injection e' with e'; injection e' with e1 e2 _
              subst e1; subst e2
              obtain ⟨hl1, hn1⟩ := HMT.out M[i] (List.getElem_mem hxi)
              rw [hl1] at hcx1 hr1
              obtain ⟨g2, o2, rfl, hxe1, hce1⟩ := hr1.int hlj
              obtain ⟨g', o', e', hxj, A3, c3, hcx2, hr3, _⟩ := (hb2.below hB3).at_ hlj
              injection e' with e'; injection e' with e1 e2 _
              subst e1; subst e2
              obtain ⟨hl3, hn3⟩ := HNT.out N[j] (List.getElem_mem hxj)
              rw [hl3] at hcx2 hr3
              obtain ⟨g4, o4, rfl, hxe3, hce2⟩ := hr3.int hlk
              obtain ⟨x1, x2⟩ := hn1 _ (List.getElem_mem hxe1)
              obtain ⟨y1, y2⟩ := hn3 _ (List.getElem_mem hxe3)
              obtain ⟨m1, m2⟩ := mul_small x1 (show M[i][j] ≤ 13 by omega) y1 (show N[j][k] ≤ 13 by omega)
              have HV : Hid ((sumTo (j + 1) fun j => ent M i j * ent N j k) % p = (s + M[i][j] * N[j][k]) % p) := Lib.hid (by rw [← hstep.out, ent_at hxi hxe1, ent_at hxj hxe3])
              have W1 := i64_fit (M[i][j] * N[j][k]) (by omega) (by omega)
              have W2 := i64_fit (s + M[i][j] * N[j][k]) (by omega) (by omega)
              have W3 : (s + M[i][j] * N[j][k]).tmod p = (s + M[i][j] * N[j][k]) % p := Int.tmod_eq_emod_of_nonneg (by omega)
              have hP0 : ¬ p = 0 := by omega
              have i1 : (0 : Int) ≤ (i : Int) := by omega
              have i2 : (i : Int) < (n : Int) := by omega
              have i3 : (0 : Int) ≤ (j : Int) := by omega
              have i4 : (j : Int) < (n : Int) := by omega
              have i5 : (0 : Int) ≤ (k : Int) := by omega
              have i6 : (k : Int) < (n : Int) := by omega
              clear hr1 hl1 hn1 hr3 hl3 hn3 ha2 hb2
              go_wp2
              refine wp_obs 19 [[], [], [], [1, 2], [1, 2, 3], [], [1, 2, 3, 4, 5], [1, 2, 3, 4, 5, 6], [], [], [8, 9], [8, 9, 10], [], [8, 9, 10, 11, 12], [8, 9, 10, 11, 12, 13], [1, 2, 3, 4, 5, 6, 7, 8, 9, 10, 11, 12, 13, 14], [0, 1, 2, 3, 4, 5, 6, 7, 8, 9, 10, 11, 12, 13, 14, 15], [], [0, 1, 2, 3, 4, 5, 6, 7, 8, 9, 10, 11, 12, 13, 14, 15, 16, 17], [0, 1, 2, 3, 4, 5, 6, 7, 8, 9, 10, 11, 12, 13, 14, 15, 16, 17, 18]] [VIs (.int .i64 (s)), VIs (.slice (some ⟨g, o, none⟩) n c), VIs (.int .i64 (i)), VIs (.pointer (some ⟨g, o + i, none⟩)), VIs (.slice (some ⟨g2, o2, none⟩) n c1), VIs (.int .i64 (j)), VIs (.pointer (some ⟨g2, o2 + j, none⟩)), VIs (.int .i64 (M[i][j])), VIs (.slice (some ⟨g3, o3, none⟩) n d), VIs (.int .i64 (j)), VIs (.pointer (some ⟨g3, o3 + j, none⟩)), VIs (.slice (some ⟨g4, o4, none⟩) n c3), VIs (.int .i64 (k)), VIs (.pointer (some ⟨g4, o4 + k, none⟩)), VIs (.int .i64 (N[j][k])), VIs (.int .i64 (M[i][j] * N[j][k])), VIs (.int .i64 (s + M[i][j] * N[j][k])), VIs (.int .i64 (p)), VIs (.int .i64 ((s + M[i][j] * N[j][k]) % p))] (fun w' => w'.cell? ⟨g, o + i, none⟩ = some (.slice (some ⟨g2, o2, none⟩) n c1) ∧ w'.cell? ⟨g2, o2 + j, none⟩ = some (.int .i64 M[i][j]) ∧ w'.cell? ⟨g3, o3 + j, none⟩ = some (.slice (some ⟨g4, o4, none⟩) n c3) ∧ w'.cell? ⟨g4, o4 + k, none⟩ = some (.int .i64 N[j][k]) ∧ Below wm.heap.size wm w') (by kernel_rfl) (by kernel_rfl) (fun _ _ h hb => ⟨(hb.cell (World.block_lt_of_cell? _ _ h.1)).trans h.1, (hb.cell (World.block_lt_of_cell? _ _ h.2.1)).trans h.2.1, (hb.cell (World.block_lt_of_cell? _ _ h.2.2.1)).trans h.2.2.1, (hb.cell (World.block_lt_of_cell? _ _ h.2.2.2.1)).trans h.2.2.2.1, h.2.2.2.2.trans (hb.mono h.2.2.2.2.size)⟩) (⟨hcx1, hce1, hcx2, hce2, hB3.drew⟩) (fun x => ?_)
              refine obs_step (Eq.trans (by simp only [List.getElem?_toArray, List.getElem?_cons_zero]; exact rfl) rfl) rfl (fun w' hS hV K hK => ?_) ?_
              · obtain ⟨q0, q1, q2, q3, _⟩ := hS
                go_simp
                exact hK.out _ _ _ rfl rfl rfl (Below.refl _ _)
              simp only [List.setIfInBounds_toArray, List.set_cons_zero, List.set_cons_succ]
              refine obs_step (Eq.trans (by simp only [List.getElem?_toArray, List.getElem?_cons_succ, List.getElem?_cons_zero]; exact rfl) rfl) rfl (fun w' hS hV K hK => ?_) ?_
              · obtain ⟨q0, q1, q2, q3, _⟩ := hS
                go_simp
                exact hK.out _ _ _ rfl rfl rfl (Below.refl _ _)
              simp only [List.setIfInBounds_toArray, List.set_cons_zero, List.set_cons_succ]
              refine obs_step (Eq.trans (by simp only [List.getElem?_toArray, List.getElem?_cons_succ, List.getElem?_cons_zero]; exact rfl) rfl) rfl (fun w' hS hV K hK => ?_) ?_
              · obtain ⟨q0, q1, q2, q3, _⟩ := hS
                go_simp
                exact hK.out _ _ _ rfl rfl rfl (Below.refl _ _)
              simp only [List.setIfInBounds_toArray, List.set_cons_zero, List.set_cons_succ]
              refine obs_step (Eq.trans (by simp only [List.getElem?_toArray, List.getElem?_cons_succ, List.getElem?_cons_zero]; exact rfl) rfl) rfl (fun w' hS hV K hK => ?_) ?_
              · have e1 : x 1 = (.slice (some ⟨g, o, none⟩) n c) := hV 1 (by decide)
                have e2 : x 2 = (.int .i64 (i)) := hV 2 (by decide)
                obtain ⟨q0, q1, q2, q3, _⟩ := hS
                go_simp
                exact hK.out _ _ _ rfl rfl rfl (Below.refl _ _)
              simp only [List.setIfInBounds_toArray, List.set_cons_zero, List.set_cons_succ]
              refine obs_step (Eq.trans (by simp only [List.getElem?_toArray, List.getElem?_cons_succ, List.getElem?_cons_zero]; exact rfl) rfl) rfl (fun w' hS hV K hK => ?_) ?_
              · have e1 : x 1 = (.slice (some ⟨g, o, none⟩) n c) := hV 1 (by decide)
                have e2 : x 2 = (.int .i64 (i)) := hV 2 (by decide)
                have e3 : x 3 = (.pointer (some ⟨g, o + i, none⟩)) := hV 3 (by decide)
                obtain ⟨q0, q1, q2, q3, _⟩ := hS
                go_simp
                exact hK.out _ _ _ rfl rfl rfl (Below.refl _ _)
              simp only [List.setIfInBounds_toArray, List.set_cons_zero, List.set_cons_succ]
              refine obs_step (Eq.trans (by simp only [List.getElem?_toArray, List.getElem?_cons_succ, List.getElem?_cons_zero]; exact rfl) rfl) rfl (fun w' hS hV K hK => ?_) ?_
              · obtain ⟨q0, q1, q2, q3, _⟩ := hS
                go_simp
                exact hK.out _ _ _ rfl rfl rfl (Below.refl _ _)
              simp only [List.setIfInBounds_toArray, List.set_cons_zero, List.set_cons_succ]
              refine obs_step (Eq.trans (by simp only [List.getElem?_toArray, List.getElem?_cons_succ, List.getElem?_cons_zero]; exact rfl) rfl) rfl (fun w' hS hV K hK => ?_) ?_
              · have e1 : x 1 = (.slice (some ⟨g, o, none⟩) n c) := hV 1 (by decide)
                have e2 : x 2 = (.int .i64 (i)) := hV 2 (by decide)
                have e3 : x 3 = (.pointer (some ⟨g, o + i, none⟩)) := hV 3 (by decide)
                have e4 : x 4 = (.slice (some ⟨g2, o2, none⟩) n c1) := hV 4 (by decide)
                have e5 : x 5 = (.int .i64 (j)) := hV 5 (by decide)
                obtain ⟨q0, q1, q2, q3, _⟩ := hS
                go_simp
                exact hK.out _ _ _ rfl rfl rfl (Below.refl _ _)
              simp only [List.setIfInBounds_toArray, List.set_cons_zero, List.set_cons_succ]
              refine obs_step (Eq.trans (by simp only [List.getElem?_toArray, List.getElem?_cons_succ, List.getElem?_cons_zero]; exact rfl) rfl) rfl (fun w' hS hV K hK => ?_) ?_
              · have e1 : x 1 = (.slice (some ⟨g, o, none⟩) n c) := hV 1 (by decide)
                have e2 : x 2 = (.int .i64 (i)) := hV 2 (by decide)
                have e3 : x 3 = (.pointer (some ⟨g, o + i, none⟩)) := hV 3 (by decide)
                have e4 : x 4 = (.slice (some ⟨g2, o2, none⟩) n c1) := hV 4 (by decide)
                have e5 : x 5 = (.int .i64 (j)) := hV 5 (by decide)
                have e6 : x 6 = (.pointer (some ⟨g2, o2 + j, none⟩)) := hV 6 (by decide)
                obtain ⟨q0, q1, q2, q3, _⟩ := hS
                go_simp
                exact hK.out _ _ _ rfl rfl rfl (Below.refl _ _)
              simp only [List.setIfInBounds_toArray, List.set_cons_zero, List.set_cons_succ]
              refine obs_step (Eq.trans (by simp only [List.getElem?_toArray, List.getElem?_cons_succ, List.getElem?_cons_zero]; exact rfl) rfl) rfl (fun w' hS hV K hK => ?_) ?_
              · obtain ⟨q0, q1, q2, q3, _⟩ := hS
                go_simp
                exact hK.out _ _ _ rfl rfl rfl (Below.refl _ _)
              simp only [List.setIfInBounds_toArray, List.set_cons_zero, List.set_cons_succ]
              refine obs_step (Eq.trans (by simp only [List.getElem?_toArray, List.getElem?_cons_succ, List.getElem?_cons_zero]; exact rfl) rfl) rfl (fun w' hS hV K hK => ?_) ?_
              · obtain ⟨q0, q1, q2, q3, _⟩ := hS
                go_simp
                exact hK.out _ _ _ rfl rfl rfl (Below.refl _ _)
              simp only [List.setIfInBounds_toArray, List.set_cons_zero, List.set_cons_succ]
              refine obs_step (Eq.trans (by simp only [List.getElem?_toArray, List.getElem?_cons_succ, List.getElem?_cons_zero]; exact rfl) rfl) rfl (fun w' hS hV K hK => ?_) ?_
              · have e8 : x 8 = (.slice (some ⟨g3, o3, none⟩) n d) := hV 8 (by decide)
                have e9 : x 9 = (.int .i64 (j)) := hV 9 (by decide)
                obtain ⟨q0, q1, q2, q3, _⟩ := hS
                go_simp
                exact hK.out _ _ _ rfl rfl rfl (Below.refl _ _)
              simp only [List.setIfInBounds_toArray, List.set_cons_zero, List.set_cons_succ]
              refine obs_step (Eq.trans (by simp only [List.getElem?_toArray, List.getElem?_cons_succ, List.getElem?_cons_zero]; exact rfl) rfl) rfl (fun w' hS hV K hK => ?_) ?_
              · have e8 : x 8 = (.slice (some ⟨g3, o3, none⟩) n d) := hV 8 (by decide)
                have e9 : x 9 = (.int .i64 (j)) := hV 9 (by decide)
                have e10 : x 10 = (.pointer (some ⟨g3, o3 + j, none⟩)) := hV 10 (by decide)
                obtain ⟨q0, q1, q2, q3, _⟩ := hS
                go_simp
                exact hK.out _ _ _ rfl rfl rfl (Below.refl _ _)
              simp only [List.setIfInBounds_toArray, List.set_cons_zero, List.set_cons_succ]
              refine obs_step (Eq.trans (by simp only [List.getElem?_toArray, List.getElem?_cons_succ, List.getElem?_cons_zero]; exact rfl) rfl) rfl (fun w' hS hV K hK => ?_) ?_
              · obtain ⟨q0, q1, q2, q3, _⟩ := hS
                go_simp
                exact hK.out _ _ _ rfl rfl rfl (Below.refl _ _)
              simp only [List.setIfInBounds_toArray, List.set_cons_zero, List.set_cons_succ]
              refine obs_step (Eq.trans (by simp only [List.getElem?_toArray, List.getElem?_cons_succ, List.getElem?_cons_zero]; exact rfl) rfl) rfl (fun w' hS hV K hK => ?_) ?_
              · have e8 : x 8 = (.slice (some ⟨g3, o3, none⟩) n d) := hV 8 (by decide)
                have e9 : x 9 = (.int .i64 (j)) := hV 9 (by decide)
                have e10 : x 10 = (.pointer (some ⟨g3, o3 + j, none⟩)) := hV 10 (by decide)
                have e11 : x 11 = (.slice (some ⟨g4, o4, none⟩) n c3) := hV 11 (by decide)
                have e12 : x 12 = (.int .i64 (k)) := hV 12 (by decide)
                obtain ⟨q0, q1, q2, q3, _⟩ := hS
                go_simp
                exact hK.out _ _ _ rfl rfl rfl (Below.refl _ _)
              simp only [List.setIfInBounds_toArray, List.set_cons_zero, List.set_cons_succ]
              refine obs_step (Eq.trans (by simp only [List.getElem?_toArray, List.getElem?_cons_succ, List.getElem?_cons_zero]; exact rfl) rfl) rfl (fun w' hS hV K hK => ?_) ?_
              · have e8 : x 8 = (.slice (some ⟨g3, o3, none⟩) n d) := hV 8 (by decide)
                have e9 : x 9 = (.int .i64 (j)) := hV 9 (by decide)
                have e10 : x 10 = (.pointer (some ⟨g3, o3 + j, none⟩)) := hV 10 (by decide)
                have e11 : x 11 = (.slice (some ⟨g4, o4, none⟩) n c3) := hV 11 (by decide)
                have e12 : x 12 = (.int .i64 (k)) := hV 12 (by decide)
                have e13 : x 13 = (.pointer (some ⟨g4, o4 + k, none⟩)) := hV 13 (by decide)
                obtain ⟨q0, q1, q2, q3, _⟩ := hS
                go_simp
                exact hK.out _ _ _ rfl rfl rfl (Below.refl _ _)
              simp only [List.setIfInBounds_toArray, List.set_cons_zero, List.set_cons_succ]
              refine obs_step (Eq.trans (by simp only [List.getElem?_toArray, List.getElem?_cons_succ, List.getElem?_cons_zero]; exact rfl) rfl) rfl (fun w' hS hV K hK => ?_) ?_
              · have e1 : x 1 = (.slice (some ⟨g, o, none⟩) n c) := hV 1 (by decide)
                have e2 : x 2 = (.int .i64 (i)) := hV 2 (by decide)
                have e3 : x 3 = (.pointer (some ⟨g, o + i, none⟩)) := hV 3 (by decide)
                have e4 : x 4 = (.slice (some ⟨g2, o2, none⟩) n c1) := hV 4 (by decide)
                have e5 : x 5 = (.int .i64 (j)) := hV 5 (by decide)
                have e6 : x 6 = (.pointer (some ⟨g2, o2 + j, none⟩)) := hV 6 (by decide)
                have e7 : x 7 = (.int .i64 (M[i][j])) := hV 7 (by decide)
                have e8 : x 8 = (.slice (some ⟨g3, o3, none⟩) n d) := hV 8 (by decide)
                have e9 : x 9 = (.int .i64 (j)) := hV 9 (by decide)
                have e10 : x 10 = (.pointer (some ⟨g3, o3 + j, none⟩)) := hV 10 (by decide)
                have e11 : x 11 = (.slice (some ⟨g4, o4, none⟩) n c3) := hV 11 (by decide)
                have e12 : x 12 = (.int .i64 (k)) := hV 12 (by decide)
                have e13 : x 13 = (.pointer (some ⟨g4, o4 + k, none⟩)) := hV 13 (by decide)
                have e14 : x 14 = (.int .i64 (N[j][k])) := hV 14 (by decide)
                obtain ⟨q0, q1, q2, q3, _⟩ := hS
                go_simp
                exact hK.out _ _ _ rfl rfl rfl (Below.refl _ _)
              simp only [List.setIfInBounds_toArray, List.set_cons_zero, List.set_cons_succ]
              refine obs_step (Eq.trans (by simp only [List.getElem?_toArray, List.getElem?_cons_succ, List.getElem?_cons_zero]; exact rfl) rfl) rfl (fun w' hS hV K hK => ?_) ?_
              · have e0 : x 0 = (.int .i64 (s)) := hV 0 (by decide)
                have e1 : x 1 = (.slice (some ⟨g, o, none⟩) n c) := hV 1 (by decide)
                have e2 : x 2 = (.int .i64 (i)) := hV 2 (by decide)
                have e3 : x 3 = (.pointer (some ⟨g, o + i, none⟩)) := hV 3 (by decide)
                have e4 : x 4 = (.slice (some ⟨g2, o2, none⟩) n c1) := hV 4 (by decide)
                have e5 : x 5 = (.int .i64 (j)) := hV 5 (by decide)
                have e6 : x 6 = (.pointer (some ⟨g2, o2 + j, none⟩)) := hV 6 (by decide)
                have e7 : x 7 = (.int .i64 (M[i][j])) := hV 7 (by decide)
                have e8 : x 8 = (.slice (some ⟨g3, o3, none⟩) n d) := hV 8 (by decide)
                have e9 : x 9 = (.int .i64 (j)) := hV 9 (by decide)
                have e10 : x 10 = (.pointer (some ⟨g3, o3 + j, none⟩)) := hV 10 (by decide)
                have e11 : x 11 = (.slice (some ⟨g4, o4, none⟩) n c3) := hV 11 (by decide)
                have e12 : x 12 = (.int .i64 (k)) := hV 12 (by decide)
                have e13 : x 13 = (.pointer (some ⟨g4, o4 + k, none⟩)) := hV 13 (by decide)
                have e14 : x 14 = (.int .i64 (N[j][k])) := hV 14 (by decide)
                have e15 : x 15 = (.int .i64 (M[i][j] * N[j][k])) := hV 15 (by decide)
                obtain ⟨q0, q1, q2, q3, _⟩ := hS
                go_simp
                exact hK.out _ _ _ rfl rfl rfl (Below.refl _ _)
              simp only [List.setIfInBounds_toArray, List.set_cons_zero, List.set_cons_succ]
              refine obs_step (Eq.trans (by simp only [List.getElem?_toArray, List.getElem?_cons_succ, List.getElem?_cons_zero]; exact rfl) rfl) rfl (fun w' hS hV K hK => ?_) ?_
              · obtain ⟨q0, q1, q2, q3, _⟩ := hS
                go_simp
                exact hK.out _ _ _ rfl rfl rfl (Below.refl _ _)
              simp only [List.setIfInBounds_toArray, List.set_cons_zero, List.set_cons_succ]
              refine obs_step (Eq.trans (by simp only [List.getElem?_toArray, List.getElem?_cons_succ, List.getElem?_cons_zero]; exact rfl) rfl) rfl (fun w' hS hV K hK => ?_) ?_
              · have e0 : x 0 = (.int .i64 (s)) := hV 0 (by decide)
                have e1 : x 1 = (.slice (some ⟨g, o, none⟩) n c) := hV 1 (by decide)
                have e2 : x 2 = (.int .i64 (i)) := hV 2 (by decide)
                have e3 : x 3 = (.pointer (some ⟨g, o + i, none⟩)) := hV 3 (by decide)
                have e4 : x 4 = (.slice (some ⟨g2, o2, none⟩) n c1) := hV 4 (by decide)
                have e5 : x 5 = (.int .i64 (j)) := hV 5 (by decide)
                have e6 : x 6 = (.pointer (some ⟨g2, o2 + j, none⟩)) := hV 6 (by decide)
                have e7 : x 7 = (.int .i64 (M[i][j])) := hV 7 (by decide)
                have e8 : x 8 = (.slice (some ⟨g3, o3, none⟩) n d) := hV 8 (by decide)
                have e9 : x 9 = (.int .i64 (j)) := hV 9 (by decide)
                have e10 : x 10 = (.pointer (some ⟨g3, o3 + j, none⟩)) := hV 10 (by decide)
                have e11 : x 11 = (.slice (some ⟨g4, o4, none⟩) n c3) := hV 11 (by decide)
                have e12 : x 12 = (.int .i64 (k)) := hV 12 (by decide)
                have e13 : x 13 = (.pointer (some ⟨g4, o4 + k, none⟩)) := hV 13 (by decide)
                have e14 : x 14 = (.int .i64 (N[j][k])) := hV 14 (by decide)
                have e15 : x 15 = (.int .i64 (M[i][j] * N[j][k])) := hV 15 (by decide)
                have e16 : x 16 = (.int .i64 (s + M[i][j] * N[j][k])) := hV 16 (by decide)
                have e17 : x 17 = (.int .i64 (p)) := hV 17 (by decide)
                obtain ⟨q0, q1, q2, q3, _⟩ := hS
                go_simp
                exact hK.out _ _ _ rfl rfl rfl (Below.refl _ _)
              simp only [List.setIfInBounds_toArray, List.set_cons_zero, List.set_cons_succ]
              refine fun w' hS hV => ?_
              have e0 : x 0 = (.int .i64 (s)) := hV 0 (by decide)
              have e1 : x 1 = (.slice (some ⟨g, o, none⟩) n c) := hV 1 (by decide)
              have e2 : x 2 = (.int .i64 (i)) := hV 2 (by decide)
              have e3 : x 3 = (.pointer (some ⟨g, o + i, none⟩)) := hV 3 (by decide)
              have e4 : x 4 = (.slice (some ⟨g2, o2, none⟩) n c1) := hV 4 (by decide)
              have e5 : x 5 = (.int .i64 (j)) := hV 5 (by decide)
              have e6 : x 6 = (.pointer (some ⟨g2, o2 + j, none⟩)) := hV 6 (by decide)
              have e7 : x 7 = (.int .i64 (M[i][j])) := hV 7 (by decide)
              have e8 : x 8 = (.slice (some ⟨g3, o3, none⟩) n d) := hV 8 (by decide)
              have e9 : x 9 = (.int .i64 (j)) := hV 9 (by decide)
              have e10 : x 10 = (.pointer (some ⟨g3, o3 + j, none⟩)) := hV 10 (by decide)
              have e11 : x 11 = (.slice (some ⟨g4, o4, none⟩) n c3) := hV 11 (by decide)
              have e12 : x 12 = (.int .i64 (k)) := hV 12 (by decide)
              have e13 : x 13 = (.pointer (some ⟨g4, o4 + k, none⟩)) := hV 13 (by decide)
              have e14 : x 14 = (.int .i64 (N[j][k])) := hV 14 (by decide)
              have e15 : x 15 = (.int .i64 (M[i][j] * N[j][k])) := hV 15 (by decide)
              have e16 : x 16 = (.int .i64 (s + M[i][j] * N[j][k])) := hV 16 (by decide)
              have e17 : x 17 = (.int .i64 (p)) := hV 17 (by decide)
              have e18 : x 18 = (.int .i64 ((s + M[i][j] * N[j][k]) % p)) := hV 18 (by decide)
              simp only [e0, e1, e2, e3, e4, e5, e6, e7, e8, e9, e10, e11, e12, e13, e14, e15, e16, e17, e18]
              clear e0 e1 e2 e3 e4 e5 e6 e7 e8 e9 e10 e11 e12 e13 e14 e15 e16 e17 e18
              refine any_one (j := 19) (by kernel_rfl) (Eq.trans (by simp only [List.getElem?_toArray, List.getElem?_cons_succ, List.getElem?_cons_zero]; exact rfl) rfl) (fun K hK => ?_)
              go_simp
              refine hK.out _ _ (wpAny_done (by kernel_rfl) ?_ _)
              have hB4 := hS.2.2.2.2
              go_wp2
              go_roundw
              case rel => exact ⟨j + 1, by omega, by go_num, by rw [HV.out], hB4⟩
              case measure => simp [intOf]; omega
            · have HB3 := Lib.hid hB3
              have hR4 := HR.out.below hB3
              clear ha2 hb2
              go_wp2_with (at_builtin; refine wpList_app1 wo _ 22 2 _ _ Tryz.underlying22 info_i rfl (by omega) rfl _ _ rfl A2 k c2 _ _ hR4 (by omega) rfl rfl rfl ?_; intro A4 c4 w4 hM4 _ _)
              go_roundw
              case rel => exact ⟨k + 1, A4, c4, by omega, by go_num, rfl, by rw [tab_succ, hend.out (by omega)]; simpa [MkI, ints] using hM4⟩
              case measure => simp [intOf]; omega
        · obtain rfl : k = n := by omega
          clear hR ha hb
          go_wp2_with (at_builtin; refine wpList_appRow w wo _ rfl _ _ rfl A' i c' _ A2 k c2 _ HM.out HR.out (by omega) rfl ?_ ?_; (go_simp); intro A4 c4 w4 hM4)
          go_roundw
          case rel => exact ⟨i + 1, A4, c4, by omega, by go_num, rfl, by rw [tab_succ, HROW.out i hlt]; exact hM4⟩
          case measure => simp [intOf]; omega
    · go_wp2
      go_ret
      obtain rfl : i = n := by omega
      exact ⟨_, _, rfl, by unfold timesM; rw [HML.out]; exact hM⟩

end Go.Proofs.YtgfgnpdnppggeaaGreat
